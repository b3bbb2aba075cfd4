/- The small functions of the counters: contracts (count.Check, size, num.Check; the reference's within and Check). -/
import Derived.Test.YtmkggjhlacajaaaKit
namespace Go.Proofs.Ytmkggjhlacajaaa
open Go.RowKit
set_option linter.unusedSimpArgs false
set_option linter.unusedVariables false

/-- A number from -2^60 to 2^60. -/
def inNum (n : Int) : Bool := decide (-1152921504606846976 ≤ n) && decide (n ≤ 1152921504606846976)
theorem inNum_iff (n : Int) : inNum n = true ↔ -1152921504606846976 ≤ n ∧ n ≤ 1152921504606846976 := by simp [inNum]

set_option maxHeartbeats 400000 in
theorem numCheck_ok (n : Int) (h1 : -1152921504606846976 ≤ n) (h2 : n ≤ 1152921504606846976) (w : World) :
    Calls Try.prog 36 #[.int .i64 n] w fun e w' => e = .returned (.int .i64 0) ∧ w = w' := by
  go_enter Try.func36, Try.ntmps36
  go_wp2
  go_ret
  exact ⟨rfl, rfl⟩

set_option maxHeartbeats 400000 in
theorem numCheck_bad (n : Int) (h : n < -1152921504606846976 ∨ 1152921504606846976 < n) (w : World) :
    Calls Try.prog 36 #[.int .i64 n] w fun e w' => e = .returned (.int .i64 7) ∧ w = w' := by
  rcases h with h | h
  · go_enter Try.func36, Try.ntmps36
    go_wp2
    go_ret
    exact ⟨rfl, rfl⟩
  · have h' : ¬ n < -1152921504606846976 := by omega
    go_enter Try.func36, Try.ntmps36
    go_wp2
    go_ret
    exact ⟨rfl, rfl⟩

set_option maxHeartbeats 400000 in
theorem within_any (n : Int) (w : World) :
    Calls Try.prog 37 #[.int .i64 n] w fun e w' => e = .returned (.bool (inNum n)) ∧ w = w' := by
  by_cases h1 : -1152921504606846976 ≤ n
  · by_cases h2 : n ≤ 1152921504606846976
    · go_enter Try.func37, Try.ntmps37
      go_wp2
      go_ret
      exact ⟨by simp [inNum, h1, h2], rfl⟩
    · go_enter Try.func37, Try.ntmps37
      go_wp2
      go_ret
      exact ⟨by simp [inNum]; omega, rfl⟩
  · go_enter Try.func37, Try.ntmps37
    go_wp2
    go_ret
    exact ⟨by simp [inNum]; omega, rfl⟩

set_option maxHeartbeats 400000 in
theorem size_any (d : Int) (h1 : -9223372036854775808 ≤ d) (h2 : d ≤ 9223372036854775807) (w : World) :
    Calls Try.prog 35 #[.int .i64 d] w fun e w' => e = .returned (.int .i64 (if d < 0 then wrap64 (-d) else d)) ∧ w = w' := by
  by_cases h : d < 0
  · go_enter Try.func35, Try.ntmps35
    go_wp2
    go_ret
    exact ⟨by simp, rfl⟩
  · go_enter Try.func35, Try.ntmps35
    go_wp2
    go_ret
    exact ⟨by simp, rfl⟩

/-- What Check says of a counter: 0 or 2. -/
def ckOK (v up dn lo hi : Int) : Bool :=
  inNum v && inNum up && inNum dn && inNum lo && inNum hi && decide (0 ≤ up) && decide (0 ≤ dn) && decide (lo ≤ v - up) && decide (v + dn ≤ hi)
def ckE (v up dn lo hi : Int) : Int := if ckOK v up dn lo hi = true then 0 else 2

set_option maxHeartbeats 1000000 in
theorem refCheck_any (v up dn lo hi : Int) (w : World) :
    Calls Try.prog 27 #[.agg #[.int .i64 v, .int .i64 up, .int .i64 dn, .int .i64 lo, .int .i64 hi]] w
      fun e w' => e = .returned (.int .i64 (ckE v up dn lo hi)) ∧ Below w.heap.size w w' := by
  go_enter Try.func27, Try.ntmps27
  go_wp2_with (go_at_call 37; refine (within_any _ _).mono ?_; rintro e w' ⟨rfl, rfl⟩)
  all_goals
    go_ret
    refine ⟨ret_int ?_, (by repeat (first | (with_reducible assumption) | (with_reducible exact Below.refl _ _) | (with_reducible refine below_drewN ?_ _) | (with_reducible refine Below.drew ?_) | ((with_reducible refine Below.alloc ?_ ?_ _); rotate_left; · (first | (with_reducible exact Nat.le_refl _) | (with_reducible assumption) | omega | (simp only [World.size_alloc, World.size_setCell, World.size_drew]; omega) | (simp; omega) | (simp; done))) | ((with_reducible refine Below.setCell ?_ ?_ _); rotate_left; · (first | (with_reducible exact Nat.le_refl _) | (with_reducible assumption) | omega | (simp only [World.size_alloc, World.size_setCell, World.size_drew]; omega) | (simp; omega) | (simp; done)))))⟩
    unfold ckE
    split
    all_goals simp only [ckOK, inNum, wrap64, Bool.not_eq_true', Bool.not_eq_false', Bool.and_eq_true, Bool.and_eq_false_iff, decide_eq_true_eq, decide_eq_false_iff_not] at *
    all_goals omega
end Go.Proofs.Ytmkggjhlacajaaa
