/- Check of the program and of the reference. -/
import Derived.Test.YtlinjanflenljaaGreatDoorKit
import Derived.Test.YtlinjanflenljaaGreatDoorBPl
namespace Go.Proofs.YtlinjanflenljaaGreatDoor
open Go.RowKit
set_option linter.unusedSimpArgs false
set_option linter.unusedVariables false
set_option linter.unusedSectionVars false
set_option maxRecDepth 10000
set_option maxHeartbeats 1000000 in
theorem check_any (r n k : Int) (w : World) : Calls Tryz.prog 109 #[.agg #[.int .i64 r, .int .i64 n], .int .i64 k] w fun e w' => e = .returned (.int .i64 (chkE r n k)) ∧ Below w.heap.size w w' := by
  go_enter Tryz.func109, Tryz.ntmps109
  go_wp2
  all_goals
    go_ret
    refine ⟨ret_int ?_, ?_⟩
    · first | exact (chkE_ok ((vld_iff _ _ _).2 (by omega))).symm | exact (chkE_bad (vld_no (by omega))).symm
    · repeat (first | exact Below.refl _ _ | (refine Below.setCell ?_ (by simp) _) | (refine Below.alloc ?_ (by simp) _))
set_option maxHeartbeats 1000000 in
theorem rcheck_any (r n k : Int) (w : World) : Calls Tryz.prog 122 #[.agg #[.int .i64 r, .int .i64 n], .int .i64 k] w fun e w' => e = .returned (.int .i64 (chkE r n k)) ∧ Below w.heap.size w w' := by
  go_enter Tryz.func122, Tryz.ntmps122
  go_wp2
  all_goals
    go_ret
    refine ⟨ret_int ?_, ?_⟩
    · first | exact (chkE_ok ((vld_iff _ _ _).2 (by omega))).symm | exact (chkE_bad (vld_no (by omega))).symm
    · repeat (first | exact Below.refl _ _ | (refine Below.setCell ?_ (by simp) _) | (refine Below.alloc ?_ (by simp) _))
end Go.Proofs.YtlinjanflenljaaGreatDoor
