/- The reference's small functions. -/
import Derived.Test.YtlinjanflenljaaGreatDoorFld
import Derived.Test.YtlinjanflenljaaGreatDoorEqM
import Derived.Test.YtlinjanflenljaaGreatDoorChk
namespace Go.Proofs.YtlinjanflenljaaGreatDoor
open Go.RowKit
set_option linter.unusedSimpArgs false
set_option linter.unusedVariables false
set_option linter.unusedSectionVars false
set_option maxRecDepth 10000
theorem uses_any (k : Int) (hk : 1 ≤ k ∧ k ≤ 11) (w : World) : Calls Tryz.prog 37 #[.int .i64 k] w fun e w' => e = .returned (.tuple #[.bool (uB k), .bool (uS k), .bool (uN k), .bool (uV k), .bool (uL k)]) ∧ w = w' := by
  have h : k = 1 ∨ k = 2 ∨ k = 3 ∨ k = 4 ∨ k = 5 ∨ k = 6 ∨ k = 7 ∨ k = 8 ∨ k = 9 ∨ k = 10 ∨ k = 11 := by omega
  rcases h with rfl | rfl | rfl | rfl | rfl | rfl | rfl | rfl | rfl | rfl | rfl
  · go_enter Tryz.func37, Tryz.ntmps37
    go_wp2_with (fail)
    refine bodyPost_ret (by simp [results, Tryz.results37, go_sem, *]; try with_reducible rfl) rfl ?_
    exact ⟨by simp [uB, uS, uN, uV, uL], rfl⟩
  · go_enter Tryz.func37, Tryz.ntmps37
    go_wp2_with (fail)
    refine bodyPost_ret (by simp [results, Tryz.results37, go_sem, *]; try with_reducible rfl) rfl ?_
    exact ⟨by simp [uB, uS, uN, uV, uL], rfl⟩
  · go_enter Tryz.func37, Tryz.ntmps37
    go_wp2_with (fail)
    refine bodyPost_ret (by simp [results, Tryz.results37, go_sem, *]; try with_reducible rfl) rfl ?_
    exact ⟨by simp [uB, uS, uN, uV, uL], rfl⟩
  · go_enter Tryz.func37, Tryz.ntmps37
    go_wp2_with (fail)
    refine bodyPost_ret (by simp [results, Tryz.results37, go_sem, *]; try with_reducible rfl) rfl ?_
    exact ⟨by simp [uB, uS, uN, uV, uL], rfl⟩
  · go_enter Tryz.func37, Tryz.ntmps37
    go_wp2_with (fail)
    refine bodyPost_ret (by simp [results, Tryz.results37, go_sem, *]; try with_reducible rfl) rfl ?_
    exact ⟨by simp [uB, uS, uN, uV, uL], rfl⟩
  · go_enter Tryz.func37, Tryz.ntmps37
    go_wp2_with (fail)
    refine bodyPost_ret (by simp [results, Tryz.results37, go_sem, *]; try with_reducible rfl) rfl ?_
    exact ⟨by simp [uB, uS, uN, uV, uL], rfl⟩
  · go_enter Tryz.func37, Tryz.ntmps37
    go_wp2_with (fail)
    refine bodyPost_ret (by simp [results, Tryz.results37, go_sem, *]; try with_reducible rfl) rfl ?_
    exact ⟨by simp [uB, uS, uN, uV, uL], rfl⟩
  · go_enter Tryz.func37, Tryz.ntmps37
    go_wp2_with (fail)
    refine bodyPost_ret (by simp [results, Tryz.results37, go_sem, *]; try with_reducible rfl) rfl ?_
    exact ⟨by simp [uB, uS, uN, uV, uL], rfl⟩
  · go_enter Tryz.func37, Tryz.ntmps37
    go_wp2_with (fail)
    refine bodyPost_ret (by simp [results, Tryz.results37, go_sem, *]; try with_reducible rfl) rfl ?_
    exact ⟨by simp [uB, uS, uN, uV, uL], rfl⟩
  · go_enter Tryz.func37, Tryz.ntmps37
    go_wp2_with (fail)
    refine bodyPost_ret (by simp [results, Tryz.results37, go_sem, *]; try with_reducible rfl) rfl ?_
    exact ⟨by simp [uB, uS, uN, uV, uL], rfl⟩
  · go_enter Tryz.func37, Tryz.ntmps37
    go_wp2_with (fail)
    refine bodyPost_ret (by simp [results, Tryz.results37, go_sem, *]; try with_reducible rfl) rfl ?_
    exact ⟨by simp [uB, uS, uN, uV, uL], rfl⟩
def inB (n lo hi : Int) : Bool := decide (lo ≤ n ∧ n ≤ hi)
theorem rin_any (n lo hi : Int) (w : World) : Calls Tryz.prog 36 #[.int .i64 n, .int .i64 lo, .int .i64 hi] w fun e w' => e = .returned (.bool (inB n lo hi)) ∧ w = w' := by
  by_cases h1 : lo ≤ n
  · by_cases h2 : n ≤ hi
    · have hx : True := trivial
      have hf := Lib.hid (show inB n lo hi = true from decide_eq_true ⟨h1, h2⟩)
      go_enter Tryz.func36, Tryz.ntmps36
      go_wp2_with (fail)
      go_ret
      exact ⟨by rw [hf.out]; rfl, rfl⟩
    · have hx : True := trivial
      have hf := Lib.hid (show inB n lo hi = false from decide_eq_false fun q => h2 q.2)
      go_enter Tryz.func36, Tryz.ntmps36
      go_wp2_with (fail)
      go_ret
      exact ⟨by rw [hf.out]; rfl, rfl⟩
  · have hx : True := trivial
    have hf := Lib.hid (show inB n lo hi = false from decide_eq_false fun q => h1 q.1)
    go_enter Tryz.func36, Tryz.ntmps36
    go_wp2_with (fail)
    go_ret
    exact ⟨by rw [hf.out]; rfl, rfl⟩

set_option maxHeartbeats 2000000 in
theorem rgood_any (r n : Int) (w : World) : Calls Tryz.prog 106 #[.agg #[.int .i64 r, .int .i64 n]] w fun e w' => e = .returned (.bool (goodB r n)) ∧ Below w.heap.size w w' := by
  have kb := (Below.refl _ w).alloc (Nat.le_refl _) (.cells #[.int .i64 r, .int .i64 n] 25)
  have hcs := kb.size
  replace kb := Lib.hid kb
  by_cases h0 : r = 0 ∧ n = 0
  · obtain ⟨rfl, rfl⟩ := h0
    go_enter Tryz.func106, Tryz.ntmps106
    go_wp2_with (fail)
    go_ret
    exact ⟨rfl, kb.out⟩
  · have hg := goodB_vld r n
    rw [show decide (r = 0 ∧ n = 0) = false from decide_eq_false h0, Bool.not_false, Bool.and_true] at hg
    replace hg := Lib.hid hg
    have hr0 : (¬ r = 0) ∨ (r = 0 ∧ ¬ n = 0) := by omega
    rcases hr0 with hr0 | ⟨rfl, hr0⟩
    · rcases Bool.eq_false_or_eq_true (vld r n 7) with hv | hv
      · have hck := Lib.hid (chkE_ok hv)
        replace hv := Lib.hid hv
        go_enter Tryz.func106, Tryz.ntmps106
        go_wp2_with (fail)
        refine (rcheck_any _ _ _ _).mono ?_
        rintro e w1 ⟨he, b1⟩
        rw [hck.out] at he; subst he
        have kb2 := Lib.hid (kb.out.trans (b1.mono hcs))
        clear b1 hcs h0 hr0
        go_wp2_with (fail)
        go_ret
        exact ⟨by rw [hg.out, hv.out]; rfl, kb2.out⟩
      · have hck := Lib.hid (chkE_bad hv)
        replace hv := Lib.hid hv
        go_enter Tryz.func106, Tryz.ntmps106
        go_wp2_with (fail)
        refine (rcheck_any _ _ _ _).mono ?_
        rintro e w1 ⟨he, b1⟩
        rw [hck.out] at he; subst he
        have kb2 := Lib.hid (kb.out.trans (b1.mono hcs))
        clear b1 hcs h0 hr0
        go_wp2_with (fail)
        go_ret
        exact ⟨by rw [hg.out, hv.out]; rfl, kb2.out⟩
    · rcases Bool.eq_false_or_eq_true (vld 0 n 7) with hv | hv
      · have hck := Lib.hid (chkE_ok hv)
        replace hv := Lib.hid hv
        go_enter Tryz.func106, Tryz.ntmps106
        go_wp2_with (fail)
        refine (rcheck_any _ _ _ _).mono ?_
        rintro e w1 ⟨he, b1⟩
        rw [hck.out] at he; subst he
        have kb2 := Lib.hid (kb.out.trans (b1.mono hcs))
        clear b1 hcs h0 hr0
        go_wp2_with (fail)
        go_ret
        exact ⟨by rw [hg.out, hv.out]; rfl, kb2.out⟩
      · have hck := Lib.hid (chkE_bad hv)
        replace hv := Lib.hid hv
        go_enter Tryz.func106, Tryz.ntmps106
        go_wp2_with (fail)
        refine (rcheck_any _ _ _ _).mono ?_
        rintro e w1 ⟨he, b1⟩
        rw [hck.out] at he; subst he
        have kb2 := Lib.hid (kb.out.trans (b1.mono hcs))
        clear b1 hcs h0 hr0
        go_wp2_with (fail)
        go_ret
        exact ⟨by rw [hg.out, hv.out]; rfl, kb2.out⟩
def smN (x : Nat) : Int := if 1099511627776 < x then -1 else (x : Int)
theorem rsmall_any (x : Nat) (w : World) : Calls Tryz.prog 34 #[.int .u64 x] w fun e w' => e = .returned (.int .i64 (smN x)) ∧ w = w' := by
  by_cases h1 : 1099511627776 < x
  · have hf := Lib.hid (show smN x = -1 from by unfold smN; rw [if_pos h1])
    have h2 : (1099511627776 : Int) < (x : Int) := by omega
    go_enter Tryz.func34, Tryz.ntmps34
    go_wp2_with (fail)
    go_ret
    exact ⟨by rw [hf.out]; rfl, rfl⟩
  · have hf := Lib.hid (show smN x = (x : Int) from by unfold smN; rw [if_neg h1])
    have h2 : ¬ (1099511627776 : Int) < (x : Int) := by omega
    have h3 : IntKind.i64.wrap (x : Int) = (x : Int) := by simp [IntKind.wrap, IntKind.signed, IntKind.bits]; omega
    go_enter Tryz.func34, Tryz.ntmps34
    go_wp2_with (fail)
    go_ret
    exact ⟨by rw [hf.out]; first | rfl | (congr 2; go_num) | simp_all, rfl⟩
theorem rpaxos_any (k : Int) (w : World) : Calls Tryz.prog 26 #[.int .i64 k] w fun e w' => e = .returned (.bool (pxB k)) ∧ w = w' := by
  by_cases h1 : 1 ≤ k
  · by_cases h2 : k ≤ 9
    · have hf := Lib.hid (show pxB k = true from decide_eq_true ⟨h1, h2⟩)
      go_enter Tryz.func26, Tryz.ntmps26
      go_wp2_with (fail)
      go_ret
      exact ⟨by rw [hf.out]; rfl, rfl⟩
    · have hf := Lib.hid (show pxB k = false from decide_eq_false fun q => h2 q.2)
      go_enter Tryz.func26, Tryz.ntmps26
      go_wp2_with (fail)
      go_ret
      exact ⟨by rw [hf.out]; rfl, rfl⟩
  · have hf := Lib.hid (show pxB k = false from decide_eq_false fun q => h1 q.1)
    go_enter Tryz.func26, Tryz.ntmps26
    go_wp2_with (fail)
    go_ret
    exact ⟨by rw [hf.out]; rfl, rfl⟩
end Go.Proofs.YtlinjanflenljaaGreatDoor
