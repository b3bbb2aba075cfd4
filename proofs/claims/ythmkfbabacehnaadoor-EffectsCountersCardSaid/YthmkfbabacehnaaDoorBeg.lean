/- How many effects two lists have in common: the program's, the document's; whether two lists are equal. -/
import Derived.Test.YthmkfbabacehnaaDoorEf
import Derived.Deep.QuietTactic
import Derived.BigQuiet
namespace Go.Proofs.YthmkfbabacehnaaDoor
open Go.RowKit
set_option linter.unusedSimpArgs false
set_option linter.unusedVariables false
set_option linter.unusedSectionVars false
set_option maxRecDepth 10000
/-- Two slices of effects, kept. -/
structure E2 (w : World) (A B : Option Addr) (n m : Nat) (l r : List Ef) (W : World) : Prop where
  bel : Below w.heap.size w W
  one : ES W A n l
  two : ES W B m r
theorem E2.keep {w W W' : World} {A B : Option Addr} {n m : Nat} {l r : List Ef} (h : E2 w A B n m l r W) (hb : Below W.heap.size W W') : E2 w A B n m l r W' := ⟨h.bel.trans (hb.mono h.bel.size), SL.keep h.one hb, SL.keep h.two hb⟩
theorem beg_take {l r : List Ef} : ∀ {k : Nat}, l.take k = r.take k → k ≤ l.length → k ≤ r.length → beg l r = k + beg (l.drop k) (r.drop k)
  | 0, _, _, _ => by simp
  | k + 1, h, h1, h2 => by
    cases l with
    | nil => simp at h1
    | cons x l =>
      cases r with
      | nil => simp at h2
      | cons y r =>
        simp only [List.take_succ_cons, List.cons.injEq] at h
        obtain ⟨rfl, h⟩ := h
        simp only [List.length_cons] at h1 h2
        have := beg_take h (by omega) (by omega)
        simp only [beg, if_true, List.drop_succ_cons, this]; omega
theorem beg_stop {l r : List Ef} {k : Nat} {x y : Ef} (h : l.take k = r.take k) (hx : l[k]? = some x) (hy : r[k]? = some y) (hne : x ≠ y) : beg l r = k := by
  have h1 := (List.getElem?_eq_some_iff.1 hx).1
  have h2 := (List.getElem?_eq_some_iff.1 hy).1
  rw [beg_take h (by omega) (by omega), List.drop_eq_getElem_cons h1, List.drop_eq_getElem_cons h2]
  have e1 : l[k] = x := (List.getElem?_eq_some_iff.1 hx).2
  have e2 : r[k] = y := (List.getElem?_eq_some_iff.1 hy).2
  rw [e1, e2]
  simp [beg, hne]
theorem beg_end {l r : List Ef} {k : Nat} (h : l.take k = r.take k) (hk : k = min l.length r.length) : beg l r = k := by
  rw [beg_take h (by omega) (by omega)]
  rcases Nat.le_total l.length r.length with q | q
  · have : l.drop k = [] := List.drop_eq_nil_of_le (by omega)
    rw [this]; rfl
  · have : r.drop k = [] := List.drop_eq_nil_of_le (by omega)
    rw [this]; cases l.drop k <;> rfl
theorem take_more {l r : List Ef} {k : Nat} {x : Ef} (h : l.take k = r.take k) (hx : l[k]? = some x) (hy : r[k]? = some x) : l.take (k + 1) = r.take (k + 1) := by
  rw [List.take_add_one, List.take_add_one, h, hx, hy]
set_option maxHeartbeats 8000000 in
theorem begins_any (A B : Option Addr) (n c m d : Nat) (l r : List Ef) (w : World) (h1 : ES w A n l) (h2 : ES w B m r) (hn : n ≤ 70368744177664) (hm : m ≤ 70368744177664) :
    Calls Tryd.prog 26 #[.slice A n c, .slice B m d] w fun e w' => e = .returned (.int .i64 (beg l r)) ∧ Below w.heap.size w w' := by
  have hl1 := h1.1
  have hl2 := h2.1
  obtain ⟨z, hz⟩ : ∃ z, beg l r = z := ⟨_, rfl⟩
  rw [hz]
  replace hz := Lib.hid hz
  go_enter Tryd.func26, Tryd.ntmps26
  have hS : E2 w A B n m l r w := ⟨Below.refl _ _, h1, h2⟩
  replace hS := Lib.hid hS
  clear h1 h2
  by_cases q : m < n
  all_goals
    go_wp2_with (fail)
    go_loopw [11] (fun i wr => ∃ k : Nat, k ≤ n ∧ k ≤ m ∧ i = .int .i64 k ∧ l.take k = r.take k ∧ E2 w A B n m l r wr) (fun i _ => n - (intOf i).toNat)
    case atStart => exact ⟨0, by omega, by omega, rfl, by simp, hS.out⟩
    case round =>
      clear hS
      obtain ⟨k, hk, hk2, rfl, ht, hS⟩ := hrel
      by_cases hlt : k < n ∧ k < m
      · obtain ⟨hlt1, hlt2⟩ := hlt
        obtain ⟨b, o, x, rfl, hbl, hx, e0, e1, e2⟩ := ES.at_ hS.one hlt1
        obtain ⟨b', o', y, rfl, hbl', hy, f0, f1, f2⟩ := ES.at_ hS.two hlt2
        obtain ⟨x0, x1, x2⟩ := x
        obtain ⟨y0, y1, y2⟩ := y
        simp only at e0 e1 e2 f0 f1 f2
        have k0 : (0 : Int) ≤ k := by omega
        by_cases hxy : x0 = y0 ∧ x1 = y1 ∧ x2 = y2
        · obtain ⟨rfl, rfl, rfl⟩ := hxy
          have ht' := Lib.hid (take_more ht hx hy)
          replace hS := Lib.hid hS
          clear ht hx hy
          go_wp2_with (fail)
          go_quiet (fail)
          go_wp2_with (fail)
          exact ⟨⟨k + 1, by omega, by omega, by go_num, ht'.out, hS.out.keep (below_drewN (Below.refl _ _) _)⟩, by simp [intOf]; omega⟩
        · have hne : ((x0, x1, x2) : Ef) ≠ (y0, y1, y2) := fun e => hxy (by simpa using e)
          have hz2 := Lib.hid (beg_stop ht hx hy hne)
          replace hS := Lib.hid hS
          clear ht hx hy hne
          have hw : (x0 = y0 ∧ x1 = y1 ∧ x2 ≠ y2) ∨ (x0 = y0 ∧ x1 ≠ y1) ∨ x0 ≠ y0 := by omega
          clear hxy
          rcases hw with ⟨rfl, rfl, hw⟩ | ⟨rfl, hw⟩ | hw
          all_goals
            have hw' := beq_false_of_ne hw
            go_wp2_with (fail)
            go_quiet (fail)
            go_wp2_with (fail)
            go_ret
            exact ⟨by have q := hz2.out; rw [hz.out] at q; subst q; rfl, hS.out.bel.trans (below_drewN ((Below.refl _ _).mono hS.out.bel.size) _)⟩
      · have hz2 := Lib.hid (beg_end ht (by omega))
        replace hS := Lib.hid hS
        clear ht
        go_wp2_with (fail)
        go_ret
        have hq := hz2.out
        rw [hz.out] at hq
        exact ⟨ret_int (by omega), hS.out.bel⟩
theorem com_take {l r : List Ef} : ∀ {k : Nat}, (l.take k).map (·.2) = (r.take k).map (·.2) → k ≤ l.length → k ≤ r.length → com l r = k + com (l.drop k) (r.drop k)
  | 0, _, _, _ => by simp
  | k + 1, h, h1, h2 => by
    cases l with
    | nil => simp at h1
    | cons x l =>
      cases r with
      | nil => simp at h2
      | cons y r =>
        simp only [List.take_succ_cons, List.map_cons, List.cons.injEq] at h
        obtain ⟨h0, h⟩ := h
        simp only [List.length_cons] at h1 h2
        have := com_take (l := l) (r := r) h (by omega) (by omega)
        simp only [com, h0, if_true, List.drop_succ_cons, this]; omega
theorem com_stop {l r : List Ef} {k : Nat} {x y : Ef} (h : (l.take k).map (·.2) = (r.take k).map (·.2)) (hx : l[k]? = some x) (hy : r[k]? = some y) (hne : x.2 ≠ y.2) : com l r = k := by
  have h1 := (List.getElem?_eq_some_iff.1 hx).1
  have h2 := (List.getElem?_eq_some_iff.1 hy).1
  rw [com_take h (by omega) (by omega), List.drop_eq_getElem_cons h1, List.drop_eq_getElem_cons h2]
  have e1 : l[k] = x := (List.getElem?_eq_some_iff.1 hx).2
  have e2 : r[k] = y := (List.getElem?_eq_some_iff.1 hy).2
  rw [e1, e2]
  simp [com, hne]
theorem com_end {l r : List Ef} {k : Nat} (h : (l.take k).map (·.2) = (r.take k).map (·.2)) (hk : k = min l.length r.length) : com l r = k := by
  rw [com_take h (by omega) (by omega)]
  rcases Nat.le_total l.length r.length with q | q
  · have : l.drop k = [] := List.drop_eq_nil_of_le (by omega)
    rw [this]; rfl
  · have : r.drop k = [] := List.drop_eq_nil_of_le (by omega)
    rw [this]; cases l.drop k <;> rfl
theorem ctake_more {l r : List Ef} {k : Nat} {x y : Ef} (h : (l.take k).map (·.2) = (r.take k).map (·.2)) (hx : l[k]? = some x) (hy : r[k]? = some y) (he : x.2 = y.2) : (l.take (k + 1)).map (·.2) = (r.take (k + 1)).map (·.2) := by
  rw [List.take_add_one, List.take_add_one, List.map_append, List.map_append, h, hx, hy]
  simp [he]
theorem all_take {l r : List Ef} {k : Nat} (h : l.take k = r.take k) (h1 : l.length = k) (h2 : r.length = k) : l = r := by
  rw [List.take_of_length_le (by omega), List.take_of_length_le (by omega)] at h
  exact h
set_option maxHeartbeats 8000000 in
theorem same_any (A B : Option Addr) (n c m d : Nat) (l r : List Ef) (w : World) (h1 : ES w A n l) (h2 : ES w B m r) (hn : n ≤ 70368744177664) (hm : m ≤ 70368744177664) :
    Calls Tryd.prog 17 #[.slice A n c, .slice B m d] w fun e w' => e = .returned (.bool (decide (l = r))) ∧ Below w.heap.size w w' := by
  have hl1 := h1.1
  have hl2 := h2.1
  obtain ⟨z, hz⟩ : ∃ z, decide (l = r) = z := ⟨_, rfl⟩
  rw [hz]
  replace hz := Lib.hid hz
  go_enter Tryd.func17, Tryd.ntmps17
  have hS : E2 w A B n m l r w := ⟨Below.refl _ _, h1, h2⟩
  replace hS := Lib.hid hS
  clear h1 h2
  by_cases hnm : n = m
  · subst hnm
    go_wp2_with (fail)
    go_loopw [5] (fun i wr => ∃ k : Nat, k ≤ n ∧ i = .int .i64 k ∧ l.take k = r.take k ∧ E2 w A B n n l r wr) (fun i _ => n - (intOf i).toNat)
    case atStart => exact ⟨0, by omega, rfl, by simp, hS.out⟩
    case round =>
      clear hS
      obtain ⟨k, hk, rfl, ht, hS⟩ := hrel
      by_cases hlt : k < n
      · obtain ⟨b, o, x, rfl, hbl, hx, e0, e1, e2⟩ := ES.at_ hS.one hlt
        obtain ⟨b', o', y, rfl, hbl', hy, f0, f1, f2⟩ := ES.at_ hS.two hlt
        obtain ⟨x0, x1, x2⟩ := x
        obtain ⟨y0, y1, y2⟩ := y
        simp only at e0 e1 e2 f0 f1 f2
        have k0 : (0 : Int) ≤ k := by omega
        by_cases hxy : x0 = y0 ∧ x1 = y1 ∧ x2 = y2
        · obtain ⟨rfl, rfl, rfl⟩ := hxy
          have ht' := Lib.hid (take_more ht hx hy)
          replace hS := Lib.hid hS
          clear ht hx hy
          go_wp2_with (fail)
          go_quiet (fail)
          go_wp2_with (fail)
          exact ⟨⟨k + 1, by omega, by go_num, ht'.out, hS.out.keep (below_drewN (Below.refl _ _) _)⟩, by simp [intOf]; omega⟩
        · have hne : ((x0, x1, x2) : Ef) ≠ (y0, y1, y2) := fun e => hxy (by simpa using e)
          have hz2 := Lib.hid (show decide (l = r) = false from decide_eq_false fun e => hne (by rw [e, hy] at hx; exact (Option.some.inj hx).symm))
          replace hS := Lib.hid hS
          clear ht hx hy hne
          have hw : (x0 = y0 ∧ x1 = y1 ∧ x2 ≠ y2) ∨ (x0 = y0 ∧ x1 ≠ y1) ∨ x0 ≠ y0 := by omega
          clear hxy
          rcases hw with ⟨rfl, rfl, hw⟩ | ⟨rfl, hw⟩ | hw
          all_goals
            have hw' := beq_false_of_ne hw
            go_wp2_with (fail)
            go_quiet (fail)
            go_wp2_with (fail)
            go_ret
            exact ⟨by have q := hz2.out; rw [hz.out] at q; subst q; rfl, hS.out.bel.trans (below_drewN ((Below.refl _ _).mono hS.out.bel.size) _)⟩
      · have hz2 := Lib.hid (show decide (l = r) = true from decide_eq_true (all_take ht (by omega) (by omega)))
        replace hS := Lib.hid hS
        clear ht
        go_wp2_with (fail)
        go_ret
        exact ⟨by have q := hz2.out; rw [hz.out] at q; subst q; rfl, hS.out.bel⟩
  · have hz2 := Lib.hid (show decide (l = r) = false from decide_eq_false fun e => hnm (by rw [← hl1, ← hl2, e]))
    go_wp2_with (fail)
    go_ret
    exact ⟨by have q := hz2.out; rw [hz.out] at q; subst q; rfl, hS.out.bel⟩
end Go.Proofs.YthmkfbabacehnaaDoor
