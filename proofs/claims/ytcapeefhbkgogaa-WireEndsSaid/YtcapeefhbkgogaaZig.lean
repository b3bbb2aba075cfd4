/- Numbers with a sign, as numbers without one, and back: the program's functions and the reference's. -/
import Derived.Test.YtcapeefhbkgogaaBits
import Derived.Test.YtcapeefhbkgogaaKit
namespace Go.Proofs.Ytcapeefhbkgogaa
open Go.RowKit
set_option linter.unusedSimpArgs false
set_option linter.unusedVariables false
set_option maxHeartbeats 1000000 in
theorem zig_any (a : Int) (h1 : -9223372036854775808 ≤ a) (h2 : a ≤ 9223372036854775807) (w : World) :
    Calls Try.prog 57 #[.int .i64 a] w fun e w' => e = .returned (.int .u64 (zig a : Nat)) ∧ w = w' := by
  go_enter Try.func57, Try.ntmps57
  go_wp2_with (fail)
  go_ret
  exact ⟨ret_int (zig_bits a h1 h2), rfl⟩
set_option maxHeartbeats 1000000 in
theorem zag_any (u : Nat) (h : u < 18446744073709551616) (w : World) :
    Calls Try.prog 62 #[.int .u64 u] w fun e w' => e = .returned (.int .i64 (zag u)) ∧ w = w' := by
  go_enter Try.func62, Try.ntmps62
  go_wp2_with (fail)
  go_ret
  exact ⟨ret_int (zag_bits u h), rfl⟩
set_option maxHeartbeats 1000000 in
theorem refZig_any (a : Int) (h1 : -9223372036854775808 ≤ a) (h2 : a ≤ 9223372036854775807) (w : World) :
    Calls Try.prog 76 #[.int .i64 a] w fun e w' => e = .returned (.int .u64 (zig a : Nat)) ∧ w = w' := by
  rcases Int.lt_or_le a 0 with h | h
  all_goals
    go_enter Try.func76, Try.ntmps76
    go_wp2_with (fail)
    go_ret
    exact ⟨ret_int (by unfold zig; split <;> omega), rfl⟩
set_option maxHeartbeats 1000000 in
theorem refZag_any (u : Nat) (h : u < 18446744073709551616) (w : World) :
    Calls Try.prog 77 #[.int .u64 u] w fun e w' => e = .returned (.int .i64 (zag u)) ∧ w = w' := by
  have hb : ((u : Int) % 2 == 1) = decide (u % 2 = 1) := by
    rw [Bool.eq_iff_iff]; simp; omega
  by_cases hu : u % 2 = 1
  all_goals
    go_enter Try.func77, Try.ntmps77
    go_wp2_with (fail)
    go_ret
    exact ⟨ret_int (by unfold zag; split <;> omega), rfl⟩
end Go.Proofs.Ytcapeefhbkgogaa
