/- The sagas of effects: the program's. -/
import Derived.Test.YthmkfbabacehnaaOf
import Derived.Lib.RowBridge
namespace Go.Proofs.Ythmkfbabacehnaa
open Go.RowKit Go.Shelf Go.Sort Go.Lib
set_option linter.unusedSimpArgs false
set_option linter.unusedVariables false
set_option linter.unusedSectionVars false
set_option maxRecDepth 10000
attribute [local go_sem ↓] hideAppend
def encI1 (x : Int) : List Value := [.int .i64 x]
theorem encI1_len (x : Int) : (encI1 x).length = 1 := rfl
theorem encI1_one (x : Int) : ∀ u ∈ encI1 x, u.oneCell' = true := by intro u hu; simp [encI1] at hu; subst hu; rfl
theorem elemI : Elem Try.prog 43 3 1 8 := elem_of (z := .int .i64 0) Try.underlying43 (by kernel_rfl) rfl (by omega)
structure OwnI (w : World) (A : Option Addr) (n c : Nat) (l : List Int) (W : World) : Prop where
  bel : Below w.heap.size w W
  own : W.ownsRow w.heap.size 3 1 (.slice A n c) n (flat encI1 l)
  len : l.length = n
  cap : n ≤ c
theorem OwnI.sl {w W : World} {A : Option Addr} {n c : Nat} {l : List Int} (h : OwnI w A n c l W) : SL encI1 1 W A n l := SL.of_own encI1_len h.own h.len
theorem OwnI.keep {w W W' : World} {A : Option Addr} {n c : Nat} {l : List Int} (h : OwnI w A n c l W) (hb : Below W.heap.size W W') : OwnI w A n c l W' := ⟨h.bel.trans (hb.mono h.bel.size), ownKeep h.own hb, h.len, h.cap⟩
theorem OwnI.push {w W : World} {A : Option Addr} {n c : Nat} {l : List Int} (h : OwnI w A n c l W) (hn : n ≤ 1000000) (x : Int) (d : Nat) :
    ∃ A' c' W', (appSem #[43, 43] 43 #[.slice A n c, .slice (some ⟨W.heap.size, 0, none⟩) 1 d]).run Try.prog (W.alloc (.cells #[.int .i64 x] 3)) = .ok (.slice A' (n + 1) c') W' ∧ OwnI w A' (n + 1) c' (l ++ [x]) W' := by
  have hb0 := (Below.refl W.heap.size W).alloc (Nat.le_refl _) (.cells #[.int .i64 x] 3)
  have h' := h.keep hb0
  obtain ⟨A', c', w1, hrun, hcap, hown, hgr, hat⟩ := append_sl elemI encI1_len encI1_one (ty := 43) (d := d) (m := 1) h'.own h'.bel.size (sl_new (enc := encI1) (k := 1) (fun _ => rfl) W [x] 3) (by omega) (by omega)
  exact ⟨A', c', w1, hrun, h'.bel.trans (below_of_grown hgr h'.bel.size fun g hg => (own_row h'.own g hg).1), hown, by simp [h.len], hcap⟩
theorem SL.cellI {W : World} {A : Option Addr} {n : Nat} {l : List Int} (h : SL encI1 1 W A n l) {i : Nat} (hi : i < n) : ∃ b o x, A = some ⟨b, o, none⟩ ∧ b < W.heap.size ∧ l[i]? = some x ∧ W.cell? ⟨b, o + i, none⟩ = some (.int .i64 x) := by
  obtain ⟨b, o, x, e, hl, hx, hc⟩ := SL.at_ h hi
  have h0 := hc 0 _ rfl
  rw [Nat.mul_one, Nat.add_zero] at h0
  exact ⟨b, o, x, e, hl, hx, h0⟩
theorem holds_keep {W W' : World} {g o : Nat} {d : Array Int} (h : Holds (Value.int .i64) W g o d) (hg : g < W.heap.size) (hb : Below W.heap.size W W') : Holds (Value.int .i64) W' g o d := fun j hj => by
  have he := hb.block g hg
  obtain ⟨h1, h2⟩ := h j hj
  refine ⟨(World.cell?_of_block (w := W) (a := ⟨g, _, none⟩) he).trans h1, ?_⟩
  rw [← h2]
  simp only [World.frozen?, he]
theorem grownBy_putRowI {W : World} {g q : Nat} (d : Array Int) : W.grownBy (putRow (Value.int .i64) (Sort.ahead W q) g 0 d) (some g) := by
  refine ⟨rfl, rfl, rfl, by simp [putRow, mapBlock, Sort.ahead], fun j hj hne => ?_⟩
  have : g ≠ j := fun e => hne (by rw [e])
  simp [putRow, mapBlock, Sort.ahead, Array.getElem?_modify, this]
theorem holds_own {w W : World} {g n c : Nat} {l : List Int} (h : OwnI w (some ⟨g, 0, none⟩) n c l W) : Holds (Value.int .i64) W g 0 l.toArray := fun j hj => by
  have hj' : j < l.length := by simpa using hj
  obtain ⟨b, o, x, e, _, hx, hc⟩ := h.sl.cellI (i := j) (by have := h.len; omega)
  injection e with e
  injection e with e1 e2
  subst e1 e2
  have hx' : l.toArray[j]! = x := by
    rw [List.getElem?_eq_getElem hj'] at hx
    injection hx with hx
    simp [hj', hx]
  refine ⟨by rw [hx']; exact hc, ?_⟩
  rcases h.own.2 with ⟨e0, _⟩ | ⟨g', cp, cur, e0, _, hh, _⟩
  · cases e0
  · injection e0 with e1 _ _
    injection e1 with e1
    injection e1 with e1
    subst e1
    simp [World.frozen?, hh]
theorem sl_holds {W : World} {g : Nat} {zs : List Int} (n : Nat) (hn : n ≤ zs.length) (hg : g < W.heap.size) (h : Holds (Value.int .i64) W g 0 zs.toArray) : SL encI1 1 W (some ⟨g, 0, none⟩) n (zs.take n) := by
  refine ⟨by simp; omega, fun _ => ⟨g, 0, rfl, hg, fun i x hx j u hu => ?_⟩⟩
  have hi : i < n := by have := (List.getElem?_eq_some_iff.1 hx).1; simp at this; omega
  rw [List.getElem?_take, if_pos hi] at hx
  have hj : j = 0 := by have := (List.getElem?_eq_some_iff.1 hu).1; simp [encI1] at this; exact this
  subst hj
  simp [encI1] at hu
  subst hu
  have h1 := (h i (by simp; omega)).1
  have hx' : zs.toArray[i]! = x := by
    rw [List.getElem?_eq_getElem (by omega)] at hx
    injection hx with hx
    have : i < zs.length := by omega
    simp [this, hx]
  rw [hx'] at h1
  rw [Nat.mul_one, Nat.add_zero]
  exact h1
def sortI (l : List Int) : List Int := l.mergeSort fun x y => decide (x ≤ y)
def sagasP (l : List Ef) : List Int := Lib.compact (sortI (l.map (·.1)))
theorem compact_le (zs : List Int) : (Lib.compact zs).length ≤ zs.length := Lib.compact_length_le zs
theorem sorted_any {w W : World} {A : Option Addr} {n c : Nat} {l : List Int} (h : OwnI w A n c l W) (hn : n ≤ 1000000) :
    Calls Try.prog 33 #[.slice A n c] W fun e w' => e = .returned (.tuple #[]) ∧ Below w.heap.size w w' ∧ (n = 0 ∨ ∃ g, A = some ⟨g, 0, none⟩ ∧ w.heap.size ≤ g ∧ g < w'.heap.size ∧ Holds (Value.int .i64) w' g 0 (sortI l).toArray) := by
  rcases Nat.eq_zero_or_pos n with h0 | h0
  · subst h0
    refine (Try.slices_Sort_int_none A c W).mono ?_
    rintro e w' ⟨rfl, rfl⟩
    exact ⟨rfl, h.bel, .inl rfl⟩
  · obtain ⟨g, cp, cur, e, hb, hh, _⟩ : ∃ g cp cur, A = some ⟨g, 0, none⟩ ∧ w.heap.size ≤ g ∧ W.heap[g]? = some (.cells cur 3 (0, 0)) ∧ cp = c := by
      rcases h.own.2 with ⟨_, e⟩ | ⟨g, cp, cur, e, hb, hh, _⟩
      · omega
      · simp only [Value.slice.injEq, true_and] at e
        exact ⟨g, c, cur, e.1, hb, hh, rfl⟩
    subst e
    have hlt : g < W.heap.size := (Array.getElem?_eq_some_iff.1 hh).1
    have hH := holds_own h
    have hc := Try.slices_Sort_int g 0 c l W hH hlt (by have := h.len; omega)
    rw [h.len] at hc
    refine hc.mono ?_
    rintro e w' ⟨rfl, q, os, rfl⟩
    have hs : (l.mergeSort fun x y => decide (x ≤ y)) = sortI l := rfl
    rw [hs]
    have hg1 : W.grownBy (putRow (Value.int .i64) (Sort.ahead W q) g 0 (sortI l).toArray) (some g) := grownBy_putRowI _
    have b1 := below_of_grown hg1 h.bel.size (fun k e => by cases e; exact hb)
    have hg2 := grown_grow (putRow (Value.int .i64) (Sort.ahead W q) g 0 (sortI l).toArray) os
    have b2 := below_of_grown hg2 (Nat.le_refl _) (fun _ e => by cases e)
    have hlt1 : g < (putRow (Value.int .i64) (Sort.ahead W q) g 0 (sortI l).toArray).heap.size := Nat.lt_of_lt_of_le hlt hg1.size
    have hH1 : Holds (Value.int .i64) (putRow (Value.int .i64) (Sort.ahead W q) g 0 (sortI l).toArray) g 0 (sortI l).toArray := holds_putRow _ _ _ _ l.toArray _ (fun j hj => hH j hj) (by simp [sortI])
    exact ⟨rfl, (h.bel.trans b1).trans (b2.mono (h.bel.trans b1).size), .inr ⟨g, rfl, hb, Nat.lt_of_lt_of_le hlt1 hg2.size, holds_keep hH1 hlt1 b2⟩⟩
theorem compacted_any {w W : World} {g n c : Nat} {l : List Int} (hb : Below w.heap.size w W) (hg : w.heap.size ≤ g) (hlt : g < W.heap.size) (hH : Holds (Value.int .i64) W g 0 l.toArray) (hl : l.length = n) (hn : n ≤ 1000000) (hc : n ≤ c) :
    Calls Try.prog 34 #[.slice (some ⟨g, 0, none⟩) n c] W fun e w' => ∃ n', e = .returned (.slice (some ⟨g, 0, none⟩) n' c) ∧ n' ≤ n ∧ Below w.heap.size w w' ∧ SL encI1 1 w' (some ⟨g, 0, none⟩) n' (Lib.compact l) := by
  have hc := Try.slices_Compact_int g 0 c l W hH (by omega) (by omega)
  rw [hl] at hc
  refine hc.mono ?_
  rintro e w' ⟨rfl, q, rfl⟩
  have hle := compact_le l
  have hsz : (Lib.compact l ++ List.replicate (n - (Lib.compact l).length) (0 : Int)).length = n := by simp; omega
  have hg1 : W.grownBy (putRow (Value.int .i64) (Sort.ahead W q) g 0 (Lib.compact l ++ List.replicate (n - (Lib.compact l).length) 0).toArray) (some g) := grownBy_putRowI _
  have b1 := below_of_grown hg1 hb.size (fun k e => by cases e; exact hg)
  have hH1 : Holds (Value.int .i64) (putRow (Value.int .i64) (Sort.ahead W q) g 0 (Lib.compact l ++ List.replicate (n - (Lib.compact l).length) 0).toArray) g 0 (Lib.compact l ++ List.replicate (n - (Lib.compact l).length) 0).toArray := holds_putRow _ _ _ _ l.toArray _ (fun j hj => hH j hj) (by rw [List.size_toArray, List.size_toArray, hsz, hl])
  have hS := sl_holds (Lib.compact l).length (by rw [hsz]; omega) (Nat.lt_of_lt_of_le hlt hg1.size) hH1
  rw [List.take_left] at hS
  exact ⟨_, rfl, by omega, hb.trans b1, hS⟩
theorem take_map_more {l : List Ef} {j : Nat} {x : Ef} (h : l[j]? = some x) : (l.take j).map (·.1) ++ [x.1] = (l.take (j + 1)).map (·.1) := by
  rw [List.take_add_one, h]; simp
set_option maxHeartbeats 8000000 in
theorem sagas_any (A : Option Addr) (n c : Nat) (l : List Ef) (w : World) (h1 : ES w A n l) (hn : n ≤ 1000) :
    Calls Try.prog 19 #[.slice A n c] w fun e w' => ∃ A' n' c', e = .returned (.slice A' n' c') ∧ n' ≤ n ∧ Below w.heap.size w w' ∧ SL encI1 1 w' A' n' (sagasP l) := by
  have hl := h1.1
  replace h1 := Lib.hid h1
  go_enter Try.func19, Try.ntmps19
  go_wp2_with (fail)
  go_loopw [3, 8] (fun v i wr => ∃ (j : Nat) (A' : Option Addr) (c' : Nat), j ≤ n ∧ i = .int .i64 j ∧ v = .slice A' j c' ∧ OwnI w A' j c' ((l.take j).map (·.1)) wr) (fun _ i _ => n - (intOf i).toNat)
  case atStart => exact ⟨0, none, 0, by omega, rfl, rfl, ⟨Below.refl _ _, ⟨rfl, .inl ⟨rfl, rfl⟩⟩, rfl, Nat.le_refl _⟩⟩
  case round =>
    obtain ⟨j, A', c', hj, rfl, rfl, hO⟩ := hrel
    by_cases hlt : j < n
    · obtain ⟨b, o, ⟨x0, x1, x2⟩, rfl, hbl, hx, e0, e1, e2⟩ := ES.at_ (SL.keep h1.out hO.bel) hlt
      have hmore := take_map_more hx
      simp only at e0 e1 e2 hmore
      have vk := (Below.refl wr.heap.size wr).alloc (Nat.le_refl _) (.cells #[.int .i64 x0, .int .i64 x1, .int .i64 x2] 40)
      obtain ⟨A2, c2, W2, hrun, hO2⟩ := (hO.keep vk).push (by omega) x0 1
      rw [hmore] at hO2
      simp only [World.size_alloc] at hrun
      have j0 : (0 : Int) ≤ j := by omega
      replace hO := Lib.hid hO; replace hO2 := Lib.hid hO2; replace hmore := Lib.hid hmore
      clear hx vk
      go_wp2_with (fail)
      exact ⟨⟨j + 1, A2, c2, by omega, by go_num, rfl, hO2.out⟩, by simp [intOf]; omega⟩
    · obtain rfl : j = n := by omega
      have hF : OwnI w A' j c' (l.map (·.1)) wr := by rw [List.take_of_length_le (by omega)] at hO; exact hO
      have hS := sorted_any hF (by omega)
      have hcap := hF.cap
      replace hO := Lib.hid hO; replace hF := Lib.hid hF
      go_wp2_with (fail)
      refine hS.mono ?_
      rintro e w2 ⟨rfl, b2, h2⟩
      clear hS
      have hlen : (sortI (l.map (·.1))).length = j := by rw [sortI, List.length_mergeSort, List.length_map]; exact hl
      rcases h2 with h0 | ⟨g, rfl, hg, hlt2, hH⟩
      · subst h0
        have hl0 : l = [] := List.eq_nil_of_length_eq_zero hl
        have hz := Lib.hid (show sagasP l = [] from by rw [hl0]; simp [sagasP, sortI, Lib.compact, Lib.compactUpTo])
        have hC := Try.slices_Compact_int_empty A' c' w2
        replace b2 := Lib.hid b2
        clear hl0 hlen
        go_wp2_with (fail)
        refine hC.mono ?_
        rintro e w3 ⟨rfl, rfl⟩
        clear hC
        go_wp2_with (fail)
        go_ret
        exact ⟨A', 0, c', rfl, Nat.le_refl _, b2.out, by rw [hz.out]; exact SL.nil _ _⟩
      · have hC := compacted_any b2 hg hlt2 hH hlen (by omega) hcap
        replace b2 := Lib.hid b2; replace hH := Lib.hid hH
        go_wp2_with (fail)
        refine hC.mono ?_
        rintro e w3 ⟨n', rfl, hn', b3, h3⟩
        replace b3 := Lib.hid b3; replace h3 := Lib.hid h3
        clear hC
        go_wp2_with (fail)
        go_ret
        exact ⟨_, n', c', rfl, hn', b3.out, h3.out⟩
end Go.Proofs.Ythmkfbabacehnaa
