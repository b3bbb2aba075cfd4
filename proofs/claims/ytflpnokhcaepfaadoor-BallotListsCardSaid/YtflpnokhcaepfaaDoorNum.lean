/- Number of the program and of the reference. -/
import Derived.Test.YtflpnokhcaepfaaDoorOrd
namespace Go.Proofs.YtflpnokhcaepfaaDoor
open Go.RowKit
set_option linter.unusedSimpArgs false
set_option linter.unusedVariables false
set_option linter.unusedSectionVars false
set_option maxRecDepth 10000
theorem k7 {k : Int} (h : 1 ≤ k ∧ k ≤ 7) : k = 1 ∨ k = 2 ∨ k = 3 ∨ k = 4 ∨ k = 5 ∨ k = 6 ∨ k = 7 := by omega
theorem num_no {r n k : Int} (h : vld r n k = false) : num r n k = (0, 2) := by unfold num; rw [h]; rfl
theorem num_zero {k : Int} (h : vld 0 0 k = true) : num 0 0 k = (0, 0) := by unfold num; rw [if_pos h, if_pos ⟨rfl, rfl⟩]
theorem num_at {r n k : Int} (h : vld r n k = true) (h0 : 1 ≤ r) : num r n k = ((r - 1) * k + n + 1, 0) := by unfold num; rw [if_pos h, if_neg (by omega)]
set_option maxHeartbeats 8000000 in
theorem num_any (r n k : Int) (w : World) : Calls Tryd.prog 23 #[.agg #[.int .i64 r, .int .i64 n], .int .i64 k] w fun e w' => e = .returned (.tuple #[.int .i64 (num r n k).1, .int .i64 (num r n k).2]) ∧ Below w.heap.size w w' := by
  rcases Bool.eq_false_or_eq_true (vld r n k) with hv | hv
  · have hv' := (vld_iff r n k).1 hv
    have hck := Lib.hid (chkE_ok hv)
    by_cases h0 : r = 0
    · obtain rfl := h0
      obtain rfl : n = 0 := by omega
      rw [num_zero hv]
      clear hv hv'
      go_enter Tryd.func23, Tryd.ntmps23
      go_wp2_with (fail)
      refine (check_any 0 0 k _).mono ?_
      rintro e w1 ⟨he, b1⟩
      rw [hck.out] at he
      subst he
      have g0 := (b1.block (w.heap.size) (by simp)).trans (hpNew _ _)
      have d0 := blkC g0 0; have d1 := blkC g0 1
      have hb := Lib.hid (((Below.refl _ w).alloc (Nat.le_refl _) (.cells #[.int .i64 0, .int .i64 0] 23)).trans (b1.mono (by simp)))
      clear g0 b1
      go_wp2_with (fail)
      go_ret2
      exact ⟨rfl, hb.out⟩
    · rw [num_at hv (by omega)]
      have h1 : 1 ≤ r := by omega
      have h2 : r ≤ 1073741824 := by omega
      have h3 : 0 ≤ n := by omega
      have h4 : n < 7 := by omega
      have h00 : (r == 0) = false := by simpa using h0
      have hk := k7 ⟨hv'.1, hv'.2.1⟩
      clear hv hv' h0
      rcases hk with rfl | rfl | rfl | rfl | rfl | rfl | rfl
      all_goals
        go_enter Tryd.func23, Tryd.ntmps23
        go_wp2_with (fail)
        refine (check_any r n _ _).mono ?_
        rintro e w1 ⟨he, b1⟩
        rw [hck.out] at he
        subst he
        have g0 := (b1.block (w.heap.size) (by simp)).trans (hpNew _ _)
        have d0 := blkC g0 0; have d1 := blkC g0 1
        have hb := Lib.hid (((Below.refl _ w).alloc (Nat.le_refl _) (.cells #[.int .i64 r, .int .i64 n] 23)).trans (b1.mono (by simp)))
        clear g0 b1
        go_wp2_with (fail)
        go_ret2
        exact ⟨by simp, hb.out⟩
  · rw [num_no hv]
    have hck := Lib.hid (chkE_bad hv)
    clear hv
    go_enter Tryd.func23, Tryd.ntmps23
    go_wp2_with (fail)
    refine (check_any r n k _).mono ?_
    rintro e w1 ⟨he, b1⟩
    rw [hck.out] at he
    subst he
    have hb := Lib.hid (((Below.refl _ w).alloc (Nat.le_refl _) (.cells #[.int .i64 r, .int .i64 n] 23)).trans (b1.mono (by simp)))
    clear b1
    go_wp2_with (fail)
    go_ret2
    exact ⟨rfl, hb.out⟩
set_option maxHeartbeats 8000000 in
theorem rnum_any (r n k : Int) (w : World) : Calls Tryd.prog 24 #[.agg #[.int .i64 r, .int .i64 n], .int .i64 k] w fun e w' => e = .returned (.tuple #[.int .i64 (num r n k).1, .int .i64 (num r n k).2]) ∧ Below w.heap.size w w' := by
  rcases Bool.eq_false_or_eq_true (vld r n k) with hv | hv
  · have hv' := (vld_iff r n k).1 hv
    have hck := Lib.hid (chkE_ok hv)
    by_cases h0 : r = 0
    · obtain rfl := h0
      obtain rfl : n = 0 := by omega
      rw [num_zero hv]
      clear hv hv'
      go_enter Tryd.func24, Tryd.ntmps24
      go_wp2_with (fail)
      refine (rcheck_any 0 0 k _).mono ?_
      rintro e w1 ⟨he, b1⟩
      rw [hck.out] at he
      subst he
      have g0 := (b1.block (w.heap.size) (by simp)).trans (hpNew _ _)
      have d0 := blkC g0 0; have d1 := blkC g0 1
      have hb := Lib.hid (((Below.refl _ w).alloc (Nat.le_refl _) (.cells #[.int .i64 0, .int .i64 0] 23)).trans (b1.mono (by simp)))
      clear g0 b1
      go_wp2_with (fail)
      go_ret2
      exact ⟨rfl, hb.out⟩
    · rw [num_at hv (by omega)]
      have h1 : 1 ≤ r := by omega
      have h2 : r ≤ 1073741824 := by omega
      have h3 : 0 ≤ n := by omega
      have h4 : n < 7 := by omega
      have h00 : (r == 0) = false := by simpa using h0
      have hk := k7 ⟨hv'.1, hv'.2.1⟩
      clear hv hv' h0
      rcases hk with rfl | rfl | rfl | rfl | rfl | rfl | rfl
      all_goals
        go_enter Tryd.func24, Tryd.ntmps24
        go_wp2_with (fail)
        refine (rcheck_any r n _ _).mono ?_
        rintro e w1 ⟨he, b1⟩
        rw [hck.out] at he
        subst he
        have g0 := (b1.block (w.heap.size) (by simp)).trans (hpNew _ _)
        have d0 := blkC g0 0; have d1 := blkC g0 1
        have hb := Lib.hid (((Below.refl _ w).alloc (Nat.le_refl _) (.cells #[.int .i64 r, .int .i64 n] 23)).trans (b1.mono (by simp)))
        clear g0 b1
        go_wp2_with (fail)
        go_ret2
        exact ⟨by simp, hb.out⟩
  · rw [num_no hv]
    have hck := Lib.hid (chkE_bad hv)
    clear hv
    go_enter Tryd.func24, Tryd.ntmps24
    go_wp2_with (fail)
    refine (rcheck_any r n k _).mono ?_
    rintro e w1 ⟨he, b1⟩
    rw [hck.out] at he
    subst he
    have hb := Lib.hid (((Below.refl _ w).alloc (Nat.le_refl _) (.cells #[.int .i64 r, .int .i64 n] 23)).trans (b1.mono (by simp)))
    clear b1
    go_wp2_with (fail)
    go_ret2
    exact ⟨rfl, hb.out⟩
end Go.Proofs.YtflpnokhcaepfaaDoor
