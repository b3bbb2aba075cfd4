/- The closure of DedupTakes. -/
import Derived.Test.YtkdfhackpmdgfaaDoorFill
namespace Go.Proofs.YtkdfhackpmdgfaaDoor
open Go.RowKit Go.Shelf
set_option linter.unusedSimpArgs false
set_option linter.unusedVariables false
set_option linter.unusedSectionVars false
set_option maxRecDepth 10000
theorem toList_nil (b : ByteArray) : b.toList = [] ↔ b = noText := by
  have h := tl_eq b noText
  rw [show noText.toList = [] from by decide +kernel] at h
  constructor
  · intro q; rw [q] at h; simpa using h.symm
  · rintro rfl; decide +kernel
set_option maxHeartbeats 8000000 in
theorem in_any {m : Mo} (hok : okM m) {R : Nat} {ga gb : ByteArray} (W : World) (hR : W.heap[R]? = some (.cells #[.string ga, .string gb] 25 (0, 0))) :
    Calls Tryd.prog 31 #[.agg #[.int .u8 m.1, .int .u8 m.2.1, .int .u8 m.2.2.1, .int .i32 m.2.2.2.1, .int .u8 m.2.2.2.2], .pointer (some ⟨R, 0, none⟩)] W fun e w' => e = .returned (.bool (inG (ga, gb) (moK m))) ∧ Below W.heap.size W w' := by
  have hof := fun W => of_any hok W
  obtain ⟨y, hy⟩ : ∃ x, x = moE m := ⟨_, rfl⟩
  obtain ⟨key, hkey⟩ : ∃ x, x = moK m := ⟨_, rfl⟩
  obtain ⟨r, hr⟩ : ∃ x, x = moR m := ⟨_, rfl⟩
  simp only [← hy, ← hkey, ← hr] at hof
  rw [← hkey]
  clear hkey hy hr hok
  obtain ⟨m1, m2, m3, m4, m5⟩ := m
  obtain ⟨y1, y2, y3⟩ := y
  obtain ⟨r1, r2, r3⟩ := r
  simp only at hof ⊢
  have kb := (Below.refl _ W).alloc (Nat.le_refl _) (.cells #[.int .u8 m1, .int .u8 m2, .int .u8 m3, .int .i32 m4, .int .u8 m5] 73)
  have hb := hpNew W (.cells #[.int .u8 m1, .int .u8 m2, .int .u8 m3, .int .i32 m4, .int .u8 m5] 73)
  have hR1 := (kb.block _ (blkX hR)).trans hR
  have z0 := blkC hb 0; have z1 := blkC hb 1; have z2 := blkC hb 2; have z3 := blkC hb 3; have z4 := blkC hb 4
  simp only [List.getElem?_toArray, List.getElem?_cons_zero, List.getElem?_cons_succ] at z0 z1 z2 z3 z4
  obtain ⟨W1, hW1⟩ : ∃ W1, W1 = W.alloc (.cells #[.int .u8 m1, .int .u8 m2, .int .u8 m3, .int .i32 m4, .int .u8 m5] 73) := ⟨_, rfl⟩
  have hRl := blkX hR
  rw [← hW1] at kb hR1
  replace kb := Lib.hid kb; replace hR1 := Lib.hid hR1; replace hR := Lib.hid hR; replace hRl := Lib.hid hRl
  clear hb
  go_enter Tryd.func31, Tryd.ntmps31
  go_wp2_with (fail)
  rw [← hW1]
  replace hW1 := Lib.hid hW1
  refine (hof _).mono ?_
  rintro e w2 ⟨rfl, b2⟩
  have hR2 := (b2.block _ (blkX hR1.out)).trans hR1.out
  have B2 := Lib.hid (kb.out.trans (b2.mono kb.out.size))
  have bq := ((Below.refl _ w2).alloc (Nat.le_refl _) (.cells #[.int .i64 y1, .int .i64 y2, .int .i64 y3] 23)).alloc (by simp) (.cells #[.int .i64 r1, .int .i64 r2, .string r3] 43)
  have hR3 := (bq.block _ (blkX hR2)).trans hR2
  have B3 := Lib.hid (B2.out.trans (bq.mono B2.out.size))
  have x0 := blkC hR3 0; have x1 := blkC hR3 1
  simp only [List.getElem?_toArray, List.getElem?_cons_zero, List.getElem?_cons_succ] at x0 x1
  clear hof kb hR1 hR b2 hR2 B2 bq hR3 z0 z1 z2 z3 z4
  cases h1 : Op.bytesLess key.toList ga.toList <;> cases h2 : Op.bytesLess key.toList gb.toList <;> by_cases h3 : gb.toList = []
  all_goals
    have h4 : decide (gb = noText) = decide (gb.toList = []) := decide_eq_decide.2 (toList_nil gb).symm
    replace h4 := Lib.hid h4
    go_wp2_with (fail)
    go_ret
    refine ⟨?_, B3.out⟩
    show _ = Ending.returned (.bool (!(Op.bytesLess key.toList ga.toList) && (decide (gb = noText) || Op.bytesLess key.toList gb.toList)))
    rw [h4.out]
    simp [h1, h2, h3]
end Go.Proofs.YtkdfhackpmdgfaaDoor
