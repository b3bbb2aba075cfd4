/- The closed facts of ShardOnce's row. -/
import Derived.Test.YtgnjnpddehdmcaaGreatDoorHas
import Derived.Test.YtgnjnpddehdmcaaGreatDoorRows
import Derived.Stop.LaidErr
import Derived.Lib.LaidTab
import Derived.LaidLaws
import Derived.JoinedOf
import Derived.JoinedAt
namespace Go.Proofs.YtgnjnpddehdmcaaGreatDoor
open Go.RowKit
set_option linter.unusedSimpArgs false
set_option linter.unusedVariables false
set_option linter.unusedSectionVars false
set_option maxRecDepth 10000
def laidS : List (String × DataW Unit) := [("math/bits.deBruijn32tab", Rows.laid_math_bits_deBruijn32tab), ("math/bits.deBruijn64tab", Rows.laid_math_bits_deBruijn64tab), ("internal/strconv.uint64pow10", Rows.laid_internal_strconv_uint64pow10), ("unicode/utf8.acceptRanges", Rows.laid_unicode_utf8_acceptRanges), ("unicode/utf8.first", Rows.laid_unicode_utf8_first)]
/-! ### One start that fits -/
def flatD : Nat → DataW Unit → List Value
 | _, .lit (.int k n) => [.int k n]
 | f + 1, .agg l => l.flatMap (flatD f)
 | _, _ => []
def putCells (cs : Array Value) : Obj → Obj
 | .cells _ t frozen => .cells cs t frozen
 | o => o
noncomputable def laidWorld (os : Os) : World :=
 let w0 := World.holding Tryz.prog os ⟨#[], #[], []⟩
 { w0 with heap := ((((w0.heap.modify 3 (putCells (flatD 3 Rows.laid_math_bits_deBruijn32tab).toArray)).modify 4 (putCells (flatD 3 Rows.laid_math_bits_deBruijn64tab).toArray)).modify 0 (putCells (flatD 3 Rows.laid_internal_strconv_uint64pow10).toArray)).modify 2 (putCells (flatD 3 Rows.laid_unicode_utf8_acceptRanges).toArray)).modify 1 (putCells (flatD 3 Rows.laid_unicode_utf8_first).toArray) }
theorem laidWorld_metS (os : Os) (args : Array Value) : laidMet Tryz.prog laidS ((laidWorld os).forCall (fun _ _ => 0) ⟨#[], args, []⟩).memory :=
 laidMet_of_run' 8 (by kernel_rfl) (by kernel_rfl)
theorem own : ownKnob Tryz.prog.godebug = none := by kernel_rfl
theorem laidOut : laidOutB Tryz.prog = true := by kernel_rfl
end Go.Proofs.YtgnjnpddehdmcaaGreatDoor

namespace Go.Proofs.YtgnjnpddehdmcaaGreatDoor
open Go.RowKit
set_option linter.unusedSimpArgs false
set_option linter.unusedVariables false
set_option maxRecDepth 100000
set_option maxHeartbeats 8000000 in
theorem closed_facts : joinedFacts Tryz.checked.prog 3 Tryz.f3 Rows.shardOnceSpec Rows.shardOnceRow = true := by
 unfold joinedFacts
 simp only [Bool.and_eq_true]
 repeat' apply And.intro
 all_goals (as_aux_lemma => kernel_rfl)
end Go.Proofs.YtgnjnpddehdmcaaGreatDoor
