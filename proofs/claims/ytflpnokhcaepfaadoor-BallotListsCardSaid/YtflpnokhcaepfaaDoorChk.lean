/- Check of the program and of the reference. -/
import Derived.Test.YtflpnokhcaepfaaDoorKit
import Derived.Test.YtflpnokhcaepfaaDoorPlain
namespace Go.Proofs.YtflpnokhcaepfaaDoor
open Go.RowKit
set_option linter.unusedSimpArgs false
set_option linter.unusedVariables false
set_option linter.unusedSectionVars false
set_option maxRecDepth 10000
set_option maxHeartbeats 1000000 in
theorem check_any (r n k : Int) (w : World) : Calls Tryd.prog 14 #[.agg #[.int .i64 r, .int .i64 n], .int .i64 k] w fun e w' => e = .returned (.int .i64 (chkE r n k)) ∧ Below w.heap.size w w' := by
  go_enter Tryd.func14, Tryd.ntmps14
  go_wp2
  all_goals
    go_ret
    refine ⟨ret_int ?_, ?_⟩
    · first | exact (chkE_ok ((vld_iff _ _ _).2 (by omega))).symm | exact (chkE_bad (vld_no (by omega))).symm
    · repeat (first | exact Below.refl _ _ | (refine Below.setCell ?_ (by simp) _) | (refine Below.alloc ?_ (by simp) _))
set_option maxHeartbeats 1000000 in
theorem rcheck_any (r n k : Int) (w : World) : Calls Tryd.prog 15 #[.agg #[.int .i64 r, .int .i64 n], .int .i64 k] w fun e w' => e = .returned (.int .i64 (chkE r n k)) ∧ Below w.heap.size w w' := by
  go_enter Tryd.func15, Tryd.ntmps15
  go_wp2
  all_goals
    go_ret
    refine ⟨ret_int ?_, ?_⟩
    · first | exact (chkE_ok ((vld_iff _ _ _).2 (by omega))).symm | exact (chkE_bad (vld_no (by omega))).symm
    · repeat (first | exact Below.refl _ _ | (refine Below.setCell ?_ (by simp) _) | (refine Below.alloc ?_ (by simp) _))
end Go.Proofs.YtflpnokhcaepfaaDoor
