/- The chapter's examples hold. -/
import Derived.Test.YthmkfbabacehnaaDoorNext
import Derived.Test.YthmkfbabacehnaaDoorAll
namespace Go.Proofs.YthmkfbabacehnaaDoor
open Go.RowKit Go.Shelf
set_option linter.unusedSimpArgs false
set_option linter.unusedVariables false
set_option linter.unusedSectionVars false
set_option maxRecDepth 10000
attribute [local go_sem ↓] hideAppend
def encP (x : Int × Int) : List Value := [.int .i64 x.1, .int .i64 x.2]
theorem sl_new {α : Type} {enc : α → List Value} {k : Nat} (hk : ∀ x, (enc x).length = k) (W : World) (l : List α) (t : TypeId) : SL enc k (W.alloc (.cells (flat enc l).toArray t)) (some ⟨W.heap.size, 0, none⟩) l.length l := by
  refine ⟨rfl, fun _ => ⟨_, _, rfl, by simp, fun i x hx j u hu => ?_⟩⟩
  have hj : j < k := by have := (List.getElem?_eq_some_iff.1 hu).1; rw [hk] at this; exact this
  have h1 := blkC (hpNew W (.cells (flat enc l).toArray t)) (0 + i * k + j)
  rw [h1]
  have h2 := flat_get hk l i x j hx hj
  simp only [Nat.zero_add, List.getElem?_toArray]
  rw [h2]; exact hu
def seven (l : List (Int × Int)) : List Ef := l.map fun x => (7, x.1, x.2)
set_option maxHeartbeats 4000000 in
theorem list_any (A : Option Addr) (n c : Nat) (l : List (Int × Int)) (w : World) (h1 : SL encP 2 w A n l) (hn : n ≤ 1000) :
    Calls Tryd.prog 15 #[.slice A n c] w fun e w' => ∃ A' c', e = .returned (.slice A' n c') ∧ OwnE w A' n c' (seven l) w' := by
  have hl := h1.1
  go_enter Tryd.func15, Tryd.ntmps15
  replace h1 := Lib.hid h1
  go_wp2_with (fail)
  go_loopw [3, 8] (fun v i wr => ∃ (j : Nat) (A' : Option Addr) (c' : Nat), j ≤ n ∧ i = .int .i64 j ∧ v = .slice A' j c' ∧ OwnE w A' j c' (seven (l.take j)) wr) (fun _ i _ => n - (intOf i).toNat)
  case atStart => exact ⟨0, none, 0, by omega, rfl, rfl, ⟨Below.refl _ _, own_none _ _, rfl, Nat.le_refl _⟩⟩
  case round =>
    obtain ⟨j, A', c', hj, rfl, rfl, hO⟩ := hrel
    by_cases hlt : j < n
    · obtain ⟨b, o, x, rfl, hbl, hx, hc⟩ := SL.at_ (SL.keep h1.out hO.bel) hlt
      obtain ⟨x0, x1⟩ := x
      have e0 := hc 0 _ rfl
      have e1 := hc 1 _ rfl
      rw [Nat.add_zero] at e0
      have vk := (Below.refl wr.heap.size wr).alloc (Nat.le_refl _) (.cells #[.int .i64 x0, .int .i64 x1] 46)
      obtain ⟨A2, c2, W2, hrun, hO2⟩ := (hO.keep vk).push (by omega) (7, x0, x1) 1
      have hmore : seven (l.take j) ++ [(7, x0, x1)] = seven (l.take (j + 1)) := by
        rw [List.take_add_one, hx]; simp [seven]
      rw [hmore] at hO2
      simp only [World.size_alloc] at hrun
      have j0 : (0 : Int) ≤ j := by omega
      replace hO := Lib.hid hO; replace hO2 := Lib.hid hO2
      clear hc hmore vk hx
      go_wp2_with (fail)
      exact ⟨⟨j + 1, A2, c2, by omega, by go_num, rfl, hO2.out⟩, by simp [intOf]; omega⟩
    · obtain rfl : j = n := by omega
      have hF : OwnE w A' j c' (seven l) wr := by rw [List.take_of_length_le (by omega)] at hO; exact hO
      replace hO := Lib.hid hO; replace hF := Lib.hid hF
      go_wp2_with (fail)
      go_ret
      exact ⟨A', c', rfl, hF.out⟩
theorem sl3 (W : World) : SL encP 2 (W.alloc (.cells #[.int .i64 0, .int .i64 1, .int .i64 0, .int .i64 2, .int .i64 1, .int .i64 1] 46)) (some ⟨W.heap.size, 0, none⟩) 3 [(0, 1), (0, 2), (1, 1)] := sl_new (enc := encP) (k := 2) (fun _ => rfl) W [(0, 1), (0, 2), (1, 1)] 46
theorem sl4 (W : World) : SL encP 2 (W.alloc (.cells #[.int .i64 0, .int .i64 1, .int .i64 1, .int .i64 1, .int .i64 0, .int .i64 3, .int .i64 1, .int .i64 3] 46)) (some ⟨W.heap.size, 0, none⟩) 4 [(0, 1), (1, 1), (0, 3), (1, 3)] := sl_new (enc := encP) (k := 2) (fun _ => rfl) W [(0, 1), (1, 1), (0, 3), (1, 3)] 46
theorem sl2 (W : World) : SL encP 2 (W.alloc (.cells #[.int .i64 0, .int .i64 1, .int .i64 1, .int .i64 1] 46)) (some ⟨W.heap.size, 0, none⟩) 2 [(0, 1), (1, 1)] := sl_new (enc := encP) (k := 2) (fun _ => rfl) W [(0, 1), (1, 1)] 46
theorem sl2' (W : World) : SL encP 2 (W.alloc (.cells #[.int .i64 0, .int .i64 3, .int .i64 1, .int .i64 2] 46)) (some ⟨W.heap.size, 0, none⟩) 2 [(0, 3), (1, 2)] := sl_new (enc := encP) (k := 2) (fun _ => rfl) W [(0, 3), (1, 2)] 46
theorem ex1 : legalP 2 (seven [(0, 1), (0, 2), (1, 1)]) = (false, 2, 0) := by decide
theorem ex2 : wholeP 2 (seven [(0, 1), (1, 1), (0, 3), (1, 3)]) = (4, true, 0) := by decide
theorem ex3 : nextP 2 (seven [(0, 1), (1, 1)]) = (seven [(0, 3), (1, 2)], 0) := by rw [next_eq]; decide
theorem ex4 : allS 1 = ([[], [(1, 0, 1), (1, 0, 2)], [(1, 0, 1), (1, 0, 3)]], 0) := by decide
set_option maxRecDepth 100000 in
set_option maxHeartbeats 8000000 in
theorem works_any (w : World) : Calls Tryd.prog 7 #[] w fun e w' => e = .returned (.bool true) ∧ Below w.heap.size w w' := by
  go_enter Tryd.func7, Tryd.ntmps7
  go_wp2_with (fail)
  refine (list_any _ 3 _ _ _ (sl3 w) (by omega)).mono ?_
  rintro e w1 ⟨A1, c1, rfl, o1⟩
  have hb1 := ((Below.refl w.heap.size w).alloc (Nat.le_refl _) (.cells #[.int .i64 0, .int .i64 1, .int .i64 0, .int .i64 2, .int .i64 1, .int .i64 1] 46)).trans (o1.bel.mono (by simp))
  have hc1 := legal_any 2 A1 3 c1 _ w1 o1.es (by omega)
  rw [ex1] at hc1
  replace o1 := Lib.hid o1; replace hb1 := Lib.hid hb1
  go_wp2_with (fail)
  refine hc1.mono ?_
  rintro e w2 ⟨rfl, b2⟩
  have hb2 := Lib.hid (hb1.out.trans (b2.mono hb1.out.size))
  clear hc1 b2 hb1 o1
  go_wp2_with (fail)
  refine (list_any _ 4 _ _ _ (sl4 w2) (by omega)).mono ?_
  rintro e w3 ⟨A3, c3, rfl, o3⟩
  have hb3 := hb2.out.trans (((Below.refl w2.heap.size w2).alloc (Nat.le_refl _) (.cells #[.int .i64 0, .int .i64 1, .int .i64 1, .int .i64 1, .int .i64 0, .int .i64 3, .int .i64 1, .int .i64 3] 46)).trans (o3.bel.mono (by simp)) |>.mono hb2.out.size)
  have hc3 := whole_any 2 A3 4 c3 _ w3 o3.es (by omega)
  rw [ex2] at hc3
  replace o3 := Lib.hid o3; replace hb3 := Lib.hid hb3
  clear hb2
  go_wp2_with (fail)
  refine hc3.mono ?_
  rintro e w4 ⟨rfl, b4⟩
  have hb4 := Lib.hid (hb3.out.trans (b4.mono hb3.out.size))
  clear hc3 b4 hb3 o3
  go_wp2_with (fail)
  refine (list_any _ 2 _ _ _ (sl2 w4) (by omega)).mono ?_
  rintro e w5 ⟨A5, c5, rfl, o5⟩
  have hb5 := hb4.out.trans (((Below.refl w4.heap.size w4).alloc (Nat.le_refl _) (.cells #[.int .i64 0, .int .i64 1, .int .i64 1, .int .i64 1] 46)).trans (o5.bel.mono (by simp)) |>.mono hb4.out.size)
  have hc5 := next_any 2 A5 2 c5 _ w5 o5.es (by omega)
  rw [ex3] at hc5
  replace o5 := Lib.hid o5; replace hb5 := Lib.hid hb5
  clear hb4
  go_wp2_with (fail)
  refine hc5.mono ?_
  rintro e w6 ⟨A6, n6, c6, rfl, o6⟩
  have hb6 := Lib.hid (hb5.out.trans (o6.bel.mono hb5.out.size))
  have hn6 : n6 = 2 := o6.len.symm
  subst hn6
  replace o6 := Lib.hid o6
  clear hc5 hb5 o5
  go_wp2_with (fail)
  refine (all_any 1 w6).mono ?_
  rintro e w7 ⟨A7, n7, c7, xs, rfl, o7⟩
  have hb7 := hb6.out.trans (o7.bel.mono hb6.out.size)
  have e7 : (allS 1).2 = 0 := by rw [ex4]
  have hn7 : n7 = 3 := by have := o7.two; rw [ex4] at this; exact this.symm
  subst hn7
  rw [e7]
  have o6k := o6.out.keep o7.bel
  obtain ⟨b, o, B0, m0, d0, l0, hA7, hbl, f0, hl0, q0⟩ := o7.at_ (i := 0) (by omega)
  obtain ⟨b', o', B2, m2, d2, l2, hA7', _, f2, hl2, q2⟩ := o7.at_ (i := 2) (by omega)
  subst hA7
  injection hA7' with hA7'
  injection hA7' with h1 h2
  subst h1 h2
  rw [ex4] at hl0 hl2
  have hm0 : m0 = 0 := by have h := q0.len; simp at hl0; rw [← h]; first | (rw [hl0]; rfl) | (rw [← hl0]; rfl)
  have hm2 : m2 = 2 := by have h := q2.len; simp at hl2; rw [← h]; first | (rw [hl2]; rfl) | (rw [← hl2]; rfl)
  subst hm0 hm2
  rw [Nat.add_zero] at f0
  replace o7 := Lib.hid o7; replace q0 := Lib.hid q0; replace q2 := Lib.hid q2; replace hb7 := Lib.hid hb7; replace o6k := Lib.hid o6k
  clear hl0 hl2 e7
  go_wp2_with (fail)
  refine (list_any _ 2 _ _ _ (sl2' w7) (by omega)).mono ?_
  rintro e w8 ⟨A8, c8, rfl, o8⟩
  have hv8 := ((Below.refl w7.heap.size w7).alloc (Nat.le_refl _) (.cells #[.int .i64 0, .int .i64 3, .int .i64 1, .int .i64 2] 46)).trans (o8.bel.mono (by simp))
  have hb8 := hb7.out.trans (hv8.mono hb7.out.size)
  have hs := same_any A6 A8 2 c6 2 c8 _ _ w8 (SL.keep o6k.out.es hv8) o8.es (by omega) (by omega)
  rw [show decide (seven [(0, 3), (1, 2)] = seven [(0, 3), (1, 2)]) = true from by simp] at hs
  have g0 := (hv8.cell (p := ⟨b, o, none⟩) hbl).trans f0
  have g2 := (hv8.cell (p := ⟨b, o + 2, none⟩) hbl).trans f2
  have hbl8 := Nat.lt_of_lt_of_le hbl hv8.size
  replace o8 := Lib.hid o8; replace hb8 := Lib.hid hb8; replace hv8 := Lib.hid hv8
  clear f0 f2
  go_wp2_with (fail)
  refine hs.mono ?_
  rintro e w9 ⟨rfl, b9⟩
  have k0 := (b9.cell (p := ⟨b, o, none⟩) hbl8).trans g0
  have k2 := (b9.cell (p := ⟨b, o + 2, none⟩) hbl8).trans g2
  have hb9 := Lib.hid (hb8.out.trans (b9.mono hb8.out.size))
  clear hs g0 g2 b9
  go_wp2_with (fail)
  go_ret
  exact ⟨rfl, hb9.out⟩
end Go.Proofs.YthmkfbabacehnaaDoor
