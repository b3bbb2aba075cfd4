/- count.Check: what it says of a counter. -/
import Derived.Test.YtgnjnpddehdmcaaGreatDoorHas
namespace Go.Proofs.YtgnjnpddehdmcaaGreatDoor.Co
open Go.RowKit
set_option linter.unusedSimpArgs false
set_option linter.unusedVariables false

def inNum (n : Int) : Bool := decide (-1152921504606846976 ≤ n) && decide (n ≤ 1152921504606846976)
theorem inNum_iff (n : Int) : inNum n = true ↔ -1152921504606846976 ≤ n ∧ n ≤ 1152921504606846976 := by simp [inNum]

set_option maxHeartbeats 400000 in
theorem numCheck_ok (n : Int) (h1 : -1152921504606846976 ≤ n) (h2 : n ≤ 1152921504606846976) (w : World) :
  Calls Tryz.prog 109 #[.int .i64 n] w fun e w' => e = .returned (.int .i64 0) ∧ w = w' := by
 go_enter Tryz.func109, Tryz.ntmps109
 go_wp2
 go_ret
 exact ⟨rfl, rfl⟩

set_option maxHeartbeats 400000 in
theorem numCheck_bad (n : Int) (h : n < -1152921504606846976 ∨ 1152921504606846976 < n) (w : World) :
  Calls Tryz.prog 109 #[.int .i64 n] w fun e w' => e = .returned (.int .i64 7) ∧ w = w' := by
 rcases h with h | h
 ·
  go_enter Tryz.func109, Tryz.ntmps109
  go_wp2
  go_ret
  exact ⟨rfl, rfl⟩
 ·
  have h' : ¬ n < -1152921504606846976 := by omega
  go_enter Tryz.func109, Tryz.ntmps109
  go_wp2
  go_ret
  exact ⟨rfl, rfl⟩

set_option maxHeartbeats 400000 in
theorem size_any (d : Int) (h1 : -9223372036854775808 ≤ d) (h2 : d ≤ 9223372036854775807) (w : World) :
  Calls Tryz.prog 317 #[.int .i64 d] w fun e w' => e = .returned (.int .i64 (if d < 0 then wrap64 (-d) else d)) ∧ w = w' := by
 by_cases h : d < 0
 ·
  go_enter Tryz.func317, Tryz.ntmps317
  go_wp2
  go_ret
  exact ⟨by simp, rfl⟩
 ·
  go_enter Tryz.func317, Tryz.ntmps317
  go_wp2
  go_ret
  exact ⟨by simp, rfl⟩

def ckOK (v up dn lo hi : Int) : Bool :=
 inNum v && inNum up && inNum dn && inNum lo && inNum hi && decide (0 ≤ up) && decide (0 ≤ dn) && decide (lo ≤ v - up) && decide (v + dn ≤ hi)
def ckE (v up dn lo hi : Int) : Int := if ckOK v up dn lo hi = true then 0 else 2

end Go.Proofs.YtgnjnpddehdmcaaGreatDoor.Co

namespace Go.Proofs.YtgnjnpddehdmcaaGreatDoor.Co
open Go.RowKit
set_option linter.unusedSimpArgs false
set_option linter.unusedVariables false

def ncE (n : Int) : Int := if inNum n = true then 0 else 7
theorem ncE_t (n : Int) : ((ncE n != 0) = true) = (inNum n = false) := by
 unfold ncE; split <;> simp_all
theorem ncE_f (n : Int) : ((ncE n != 0) = false) = (inNum n = true) := by
 unfold ncE; split <;> simp_all
theorem numCheck_any (n : Int) (w : World) :
  Calls Tryz.prog 109 #[.int .i64 n] w fun e w' => e = .returned (.int .i64 (ncE n)) ∧ w = w' := by
 by_cases h : inNum n = true
 ·
  have h' := (inNum_iff n).1 h
  refine (numCheck_ok n h'.1 h'.2 w).mono fun e w' hh => ?_
  rw [hh.1, ncE, if_pos h]; exact ⟨rfl, hh.2⟩
 ·
  refine (numCheck_bad n ?_ w).mono fun e w' hh => ?_
  ·
   rw [inNum_iff] at h; omega
  ·
   rw [hh.1, ncE, if_neg h]; exact ⟨rfl, hh.2⟩

section
variable (a b c d e : Int) (w : World)
theorem idx0 : (Instr.index 230 (.agg #[.int .i64 a, .int .i64 b, .int .i64 c, .int .i64 d, .int .i64 e]) (.int .i64 0)).run Tryz.prog w = .ok (.int .i64 a) w := by kernel_rfl
theorem idx1 : (Instr.index 230 (.agg #[.int .i64 a, .int .i64 b, .int .i64 c, .int .i64 d, .int .i64 e]) (.int .i64 1)).run Tryz.prog w = .ok (.int .i64 b) w := by kernel_rfl
theorem idx2 : (Instr.index 230 (.agg #[.int .i64 a, .int .i64 b, .int .i64 c, .int .i64 d, .int .i64 e]) (.int .i64 2)).run Tryz.prog w = .ok (.int .i64 c) w := by kernel_rfl
theorem idx3 : (Instr.index 230 (.agg #[.int .i64 a, .int .i64 b, .int .i64 c, .int .i64 d, .int .i64 e]) (.int .i64 3)).run Tryz.prog w = .ok (.int .i64 d) w := by kernel_rfl
theorem idx4 : (Instr.index 230 (.agg #[.int .i64 a, .int .i64 b, .int .i64 c, .int .i64 d, .int .i64 e]) (.int .i64 4)).run Tryz.prog w = .ok (.int .i64 e) w := by kernel_rfl
end

set_option maxHeartbeats 1000000 in
theorem check_any (v up dn lo hi : Int) (w : World) :
  Calls Tryz.prog 85 #[.agg #[.int .i64 v, .int .i64 up, .int .i64 dn, .int .i64 lo, .int .i64 hi]] w
   fun e w' => e = .returned (.int .i64 (ckE v up dn lo hi)) ∧ Below w.heap.size w w' := by
 have i0 := idx0 v up dn lo hi
 have i1 := idx1 v up dn lo hi
 have i2 := idx2 v up dn lo hi
 have i3 := idx3 v up dn lo hi
 have i4 := idx4 v up dn lo hi
 go_enter Tryz.func85, Tryz.ntmps85
 go_wp2
 refine wp_loop_rounds 6 ?_
 repeat any_goals (rw [rounds_succ]; go_wp2_with (go_at_call 109; refine (numCheck_any _ _).mono ?_; rintro e w' ⟨rfl, rfl⟩))
 all_goals
  go_ret
  refine ⟨ret_int ?_, (by repeat (first | (with_reducible assumption) | (with_reducible exact Below.refl _ _) | (with_reducible refine below_drewN ?_ _) | (with_reducible refine Below.drew ?_) | ((with_reducible refine Below.alloc ?_ ?_ _); rotate_left; · (first | (with_reducible exact Nat.le_refl _) | (with_reducible assumption) | omega | (simp only [World.size_alloc, World.size_setCell, World.size_drew]; omega) | (simp; omega) | (simp; done))) | ((with_reducible refine Below.setCell ?_ ?_ _); rotate_left; · (first | (with_reducible exact Nat.le_refl _) | (with_reducible assumption) | omega | (simp only [World.size_alloc, World.size_setCell, World.size_drew]; omega) | (simp; omega) | (simp; done)))))⟩
  unfold ckE
  split
  all_goals simp only [ckOK, ncE_t, ncE_f, inNum, wrap64, Bool.not_eq_true, Bool.and_eq_true, Bool.and_eq_false_iff, decide_eq_true_eq, decide_eq_false_iff_not] at *
  all_goals omega
end Go.Proofs.YtgnjnpddehdmcaaGreatDoor.Co
