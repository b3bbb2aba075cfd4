/- New, Len, Room, Get, Key. -/
import Derived.Test.YtkdfhackpmdgfaaGreatDoorTabP
import Derived.Deep.QuietTactic
import Derived.BigQuiet
namespace Go.Proofs.YtkdfhackpmdgfaaGreatDoor
open Go.RowKit Go.Shelf
set_option linter.unusedSimpArgs false
set_option linter.unusedVariables false
set_option linter.unusedSectionVars false
set_option maxRecDepth 10000
theorem new_ok (size : Int) (base : Nat) (w : World) (h0 : 0 ≤ size) (h1 : size ≤ 2048) (hb : base ≤ w.heap.size) : Calls Tryz.prog 14 #[.int .i64 size] w fun e w' => e = .returned (.tuple #[.pointer (some ⟨w.heap.size, 0, none⟩), .int .i64 0]) ∧ TabP base w.heap.size size none 0 [] w' ∧ Below w.heap.size w w' := by
  have hnew := hpNew w (.cells #[.bool true, .int .i64 size, .slice none 0 0] 64)
  have kb := (Below.refl w.heap.size w).alloc (Nat.le_refl _) (.cells #[.bool true, .int .i64 size, .slice none 0 0] 64)
  replace hnew := Lib.hid hnew; replace kb := Lib.hid kb
  have d0 : ¬ size < 0 := by omega
  have d1 : ¬ 2048 < size := by omega
  go_enter Tryz.func14, Tryz.ntmps14
  go_wp2_with (fail)
  refine bodyPost_ret (results_tmp2 rfl _ _ _) rfl ?_
  exact ⟨rfl, ⟨hb, hnew.out, World.ownsRow_nil _ _ _ _, by simp; omega, h1⟩, kb.out⟩
theorem new_no (size : Int) (w : World) (h : size < 0 ∨ 2048 < size) : Calls Tryz.prog 14 #[.int .i64 size] w fun e w' => e = .returned (.tuple #[.pointer none, .int .i64 2]) ∧ w' = w := by
  rcases h with h | h
  · go_enter Tryz.func14, Tryz.ntmps14
    go_wp2_with (fail)
    refine bodyPost_ret (results_tmp2 rfl _ _ _) rfl ?_
    exact ⟨rfl, rfl⟩
  · have d0 : ¬ size < 0 := by omega
    go_enter Tryz.func14, Tryz.ntmps14
    go_wp2_with (fail)
    refine bodyPost_ret (results_tmp2 rfl _ _ _) rfl ?_
    exact ⟨rfl, rfl⟩
section
variable {base D c : Nat} {size : Int} {A : Option Addr} {P : List En} {w : World}
theorem len_any (h : TabP base D size A c P w) : Calls Tryz.prog 17 #[.pointer (some ⟨D, 0, none⟩)] w fun e w' => e = .returned (.int .i64 (P.length : Int)) ∧ w' = w := by
  have hv := valid_any h
  have c2 := blkC h.blk 2
  simp only [List.getElem?_toArray, List.getElem?_cons_zero, List.getElem?_cons_succ] at c2
  replace h := Lib.hid h
  go_enter Tryz.func17, Tryz.ntmps17
  go_wp2_with (fail)
  refine hv.mono ?_
  rintro e w2 ⟨rfl, rfl⟩
  go_wp2_with (fail)
  go_ret
  exact ⟨rfl, rfl⟩
theorem room_any (h : TabP base D size A c P w) (h0 : 0 ≤ size) : Calls Tryz.prog 18 #[.pointer (some ⟨D, 0, none⟩)] w fun e w' => e = .returned (.int .i64 (size - P.length)) ∧ Below w.heap.size w w' := by
  have hv := valid_any h
  have c1 := blkC h.blk 1
  have c2 := blkC h.blk 2
  have hsz := h.sz
  have hle := h.le
  simp only [List.getElem?_toArray, List.getElem?_cons_zero, List.getElem?_cons_succ] at c1 c2
  replace h := Lib.hid h
  go_enter Tryz.func18, Tryz.ntmps18
  go_wp2_with (fail)
  refine hv.mono ?_
  rintro e w2 ⟨rfl, rfl⟩
  go_wp2_with (fail)
  first
    | (go_quiet (fail)
       go_wp2_with (fail)
       go_ret
       exact ⟨rfl, below_drewN (Below.refl _ _) _⟩)
    | (go_ret
       exact ⟨rfl, Below.refl _ _⟩)
theorem get_none {P : List En} {y : Ef} (h : hasB P y = false) : getR P y = (0, 0, ⟨#[]⟩) ∧ getK P y = ⟨#[]⟩ := by
  unfold hasB at h
  unfold getR getK
  cases hl : look P y with
  | none => exact ⟨rfl, rfl⟩
  | some z => rw [hl] at h; cases h
theorem get_some {P : List En} {y : Ef} (ho : Ord P) (h : hasB P y = true) : ∃ z, P[pos P y]? = some z ∧ z.e = y ∧ getR P y = z.r ∧ getK P y = z.k := by
  have hp := look_pos ho y
  unfold hasB at h
  unfold getR getK
  cases hz : P[pos P y]? with
  | none => rw [hz] at hp; rw [hp] at h; cases h
  | some z =>
    rw [hz] at hp
    by_cases q : z.e = y
    · simp only [if_pos q] at hp
      exact ⟨z, rfl, q, by rw [hp], by rw [hp]⟩
    · simp only [if_neg q] at hp
      rw [hp] at h; cases h
set_option maxHeartbeats 4000000 in
theorem get_any (h : TabP base D size A c P w) (ho : Ord P) (y : Ef) : Calls Tryz.prog 50 #[.pointer (some ⟨D, 0, none⟩), .agg #[.int .i64 y.1, .int .i64 y.2.1, .int .i64 y.2.2]] w fun e w' => ∃ z : En, e = .returned (.tuple #[.agg #[.int .i64 z.r.1, .int .i64 z.r.2.1, .string z.r.2.2, .int .i64 z.e.1, .int .i64 z.e.2.1, .int .i64 z.e.2.2, .string z.k], .bool (hasB P y)]) ∧ z.r = getR P y ∧ z.k = getK P y ∧ Below w.heap.size w w' := by
  have kb := ((Below.refl w.heap.size w).alloc (Nat.le_refl _) (.cells #[.int .i64 y.1, .int .i64 y.2.1, .int .i64 y.2.2] 39)).alloc (by simp) (.cells #[.int .i64 0, .int .i64 0, .string ⟨#[]⟩, .int .i64 0, .int .i64 0, .int .i64 0, .string ⟨#[]⟩] 67)
  obtain ⟨W1, hW1⟩ : ∃ W1, W1 = (w.alloc (.cells #[.int .i64 y.1, .int .i64 y.2.1, .int .i64 y.2.2] 39)).alloc (.cells #[.int .i64 0, .int .i64 0, .string ⟨#[]⟩, .int .i64 0, .int .i64 0, .int .i64 0, .string ⟨#[]⟩] 67) := ⟨_, rfl⟩
  have hZ : W1.heap[w.heap.size + 1]? = some (.cells #[.int .i64 0, .int .i64 0, .string ⟨#[]⟩, .int .i64 0, .int .i64 0, .int .i64 0, .string ⟨#[]⟩] 67 (0, 0)) := by
    have := hpNew (w.alloc (.cells #[.int .i64 y.1, .int .i64 y.2.1, .int .i64 y.2.2] 39)) (.cells #[.int .i64 0, .int .i64 0, .string ⟨#[]⟩, .int .i64 0, .int .i64 0, .int .i64 0, .string ⟨#[]⟩] 67)
    rw [hW1]; simpa using this
  rw [← hW1] at kb
  have hT := h.below kb
  have hf := find_any hT ho y
  replace h := Lib.hid h; replace kb := Lib.hid kb; replace hT := Lib.hid hT; replace hZ := Lib.hid hZ
  go_enter Tryz.func50, Tryz.ntmps50
  go_wp2_with (fail)
  rw [← hW1]
  replace hW1 := Lib.hid hW1
  refine hf.mono ?_
  rintro e w2 ⟨rfl, b2⟩
  have hZ2 := (b2.block _ (blkX hZ.out)).trans hZ.out
  have hT2 := hT.out.below b2
  have kk := kb.out.trans (b2.mono kb.out.size)
  have z0 := blkC hZ2 0; have z1 := blkC hZ2 1; have z2 := blkC hZ2 2; have z3 := blkC hZ2 3; have z4 := blkC hZ2 4; have z5 := blkC hZ2 5; have z6 := blkC hZ2 6
  have zf := blkF hZ2
  have zx := blkX hZ2
  simp only [List.getElem?_toArray, List.getElem?_cons_zero, List.getElem?_cons_succ] at z0 z1 z2 z3 z4 z5 z6
  have hbs : w.heap.size ≤ w.heap.size + 1 := by omega
  cases hh : hasB P y with
  | false =>
    obtain ⟨g1, g2⟩ := get_none hh
    replace hh := Lib.hid hh; replace hZ2 := Lib.hid hZ2; replace hT2 := Lib.hid hT2; replace kk := Lib.hid kk; replace b2 := Lib.hid b2; replace g1 := Lib.hid g1; replace g2 := Lib.hid g2
    go_wp2_with (fail)
    refine bodyPost_ret (by simp [results, Tryz.results50, go_sem, *]; try with_reducible rfl) rfl ?_
    exact ⟨⟨(0, 0, 0), ⟨#[]⟩, (0, 0, ⟨#[]⟩)⟩, by rw [hh.out], g1.out.symm, g2.out.symm, by (repeat (refine Below.setCell ?_ hbs _)); exact kk.out⟩
  | true =>
    obtain ⟨z, hz, hze, g1, g2⟩ := get_some ho hh
    have hi : pos P y < P.length := (List.getElem?_eq_some_iff.1 hz).1
    obtain ⟨b, o, z', rfl, hbl, hz', p0, p1, p2, p3, p4, p5, p6⟩ := PS.at_ hT2.ps hi
    rw [hz] at hz'
    injection hz' with hz'
    subst hz'
    have d2 := blkC hT2.blk 2
    simp only [List.getElem?_toArray, List.getElem?_cons_zero, List.getElem?_cons_succ] at d2
    have i0 : (0 : Int) ≤ pos P y := by omega
    have i1 : (pos P y : Int) < P.length := by omega
    replace hh := Lib.hid hh; replace hZ2 := Lib.hid hZ2; replace hT2 := Lib.hid hT2; replace kk := Lib.hid kk; replace b2 := Lib.hid b2; replace g1 := Lib.hid g1; replace g2 := Lib.hid g2; replace hz := Lib.hid hz; replace hze := Lib.hid hze
    go_wp2_with (fail)
    refine bodyPost_ret (by simp [results, Tryz.results50, go_sem, *]; try with_reducible rfl) rfl ?_
    exact ⟨z, by rw [hh.out], g1.out.symm, g2.out.symm, by (repeat (refine Below.setCell ?_ hbs _)); exact kk.out⟩
set_option maxHeartbeats 4000000 in
theorem Get_any (h : TabP base D size A c P w) (ho : Ord P) (y : Ef) : Calls Tryz.prog 22 #[.pointer (some ⟨D, 0, none⟩), .agg #[.int .i64 y.1, .int .i64 y.2.1, .int .i64 y.2.2]] w fun e w' => e = .returned (.tuple #[.agg #[.int .i64 (getR P y).1, .int .i64 (getR P y).2.1, .string (getR P y).2.2], .bool (hasB P y)]) ∧ Below w.heap.size w w' := by
  have kb := ((Below.refl w.heap.size w).alloc (Nat.le_refl _) (.cells #[.int .i64 y.1, .int .i64 y.2.1, .int .i64 y.2.2] 39)).alloc (by simp) (.cells #[.int .i64 0, .int .i64 0, .string ⟨#[]⟩] 50)
  obtain ⟨W1, hW1⟩ : ∃ W1, W1 = (w.alloc (.cells #[.int .i64 y.1, .int .i64 y.2.1, .int .i64 y.2.2] 39)).alloc (.cells #[.int .i64 0, .int .i64 0, .string ⟨#[]⟩] 50) := ⟨_, rfl⟩
  have hZ : W1.heap[w.heap.size + 1]? = some (.cells #[.int .i64 0, .int .i64 0, .string ⟨#[]⟩] 50 (0, 0)) := by
    have := hpNew (w.alloc (.cells #[.int .i64 y.1, .int .i64 y.2.1, .int .i64 y.2.2] 39)) (.cells #[.int .i64 0, .int .i64 0, .string ⟨#[]⟩] 50)
    rw [hW1]; simpa using this
  rw [← hW1] at kb
  have hT := h.below kb
  have hf := get_any hT ho y
  generalize getR P y = gr at *
  generalize hasB P y = hb at *
  replace h := Lib.hid h; replace kb := Lib.hid kb; replace hT := Lib.hid hT; replace hZ := Lib.hid hZ
  go_enter Tryz.func22, Tryz.ntmps22
  go_wp2_with (fail)
  rw [← hW1]
  replace hW1 := Lib.hid hW1
  refine hf.mono ?_
  rintro e w2 ⟨z, rfl, rfl, hk, b2⟩
  have hZ2 := (b2.block _ (blkX hZ.out)).trans hZ.out
  have kk := kb.out.trans (b2.mono kb.out.size)
  have z0 := blkC hZ2 0; have z1 := blkC hZ2 1; have z2 := blkC hZ2 2
  have zf := blkF hZ2
  have zx := blkX hZ2
  simp only [List.getElem?_toArray, List.getElem?_cons_zero, List.getElem?_cons_succ] at z0 z1 z2
  have hbs : w.heap.size ≤ w.heap.size + 1 := by omega
  replace hZ2 := Lib.hid hZ2; replace kk := Lib.hid kk; replace b2 := Lib.hid b2; replace hk := Lib.hid hk
  go_wp2_with (fail)
  refine bodyPost_ret (by simp [results, Tryz.results22, go_sem, *]; try with_reducible rfl) rfl ?_
  exact ⟨rfl, Below.alloc (by (repeat (refine Below.setCell ?_ hbs _)); exact kk.out) (by have := kk.out.size; simp; omega) _⟩
end
end Go.Proofs.YtkdfhackpmdgfaaGreatDoor
