/- What the rows of the chapter list, and a start that fits. -/
import Derived.Test.YthmkfbabacehnaaDoorSumD
import Derived.Stop.LaidErr
import Derived.Lib.LaidTab
import Derived.LaidLaws
namespace Go.Proofs.YthmkfbabacehnaaDoor
open Go.RowKit Go.Shelf
set_option linter.unusedSimpArgs false
set_option linter.unusedVariables false
set_option linter.unusedSectionVars false
set_option maxRecDepth 10000
theorem gA : Tryd.prog.globalNamed "skald/effects.adds" = some 0 := by kernel_rfl
theorem gAT : (Tryd.prog.globals[0]?).map (·.type) = some 54 := by kernel_rfl
theorem gH : Tryd.prog.globalNamed "skald/effects.holds" = some 1 := by kernel_rfl
theorem gHT : (Tryd.prog.globals[1]?).map (·.type) = some 54 := by kernel_rfl
theorem cellsI : Tryd.prog.cellsOf 2 = 1 := by kernel_rfl
theorem cellsA : Tryd.prog.cellsOf 54 = 4 := by kernel_rfl
def laidA : List (String × DataW Unit) := [("unicode/utf8.acceptRanges", Rows.laid_unicode_utf8_acceptRanges), ("skald/effects.adds", Rows.laid_skald_effects_adds), ("unicode/utf8.first", Rows.laid_unicode_utf8_first)]
def laidS : List (String × DataW Unit) := [("unicode/utf8.acceptRanges", Rows.laid_unicode_utf8_acceptRanges), ("skald/effects.adds", Rows.laid_skald_effects_adds), ("skald/effects.holds", Rows.laid_skald_effects_holds), ("unicode/utf8.first", Rows.laid_unicode_utf8_first)]
theorem tabA : (Rows.laid_skald_effects_adds : DataW Unit) = Lib.tabData .i64 [0, 1, -1, 0] := by rfl
theorem tabH : (Rows.laid_skald_effects_holds : DataW Unit) = Lib.tabData .i64 [0, 1, -1, -1] := by rfl
theorem ldA_of {W : World} {rest : List (String × DataW Unit)} (h : laidMet Tryd.prog (("skald/effects.adds", Rows.laid_skald_effects_adds) :: rest) W) : LdA W := by
  rw [tabA] at h
  exact ld_var (Lib.tabIs_of_head gA gAT Tryd.underlying54 Tryd.underlying2 cellsI cellsA h) gA
theorem ldH_of {W : World} {rest : List (String × DataW Unit)} (h : laidMet Tryd.prog (("skald/effects.holds", Rows.laid_skald_effects_holds) :: rest) W) : LdH W := by
  rw [tabH] at h
  exact ld_var (Lib.tabIs_of_head gH gHT Tryd.underlying54 Tryd.underlying2 cellsI cellsA h) gH
/-! ### One start that fits -/
def flatD : Nat → DataW Unit → List Value
  | _, .lit (.int k n) => [.int k n]
  | f + 1, .agg l => l.flatMap (flatD f)
  | _, _ => []
def putCells (cs : Array Value) : Obj → Obj
  | .cells _ t frozen => .cells cs t frozen
  | o => o
noncomputable def laidWorld (os : Os) : World :=
  let w0 := World.holding Tryd.prog os ⟨#[], #[], []⟩
  { w0 with heap := (((w0.heap.modify 0 (putCells (flatD 3 Rows.laid_skald_effects_adds).toArray)).modify 1 (putCells (flatD 3 Rows.laid_skald_effects_holds).toArray)).modify 3 (putCells (flatD 3 Rows.laid_unicode_utf8_acceptRanges).toArray)).modify 2 (putCells (flatD 3 Rows.laid_unicode_utf8_first).toArray) }
theorem laidWorld_metA (os : Os) (args : Array Value) : laidMet Tryd.prog laidA ((laidWorld os).forCall (fun _ _ => 0) ⟨#[], args, []⟩).memory :=
  laidMet_of_run' 8 (by kernel_rfl) (by kernel_rfl)
theorem laidWorld_metS (os : Os) (args : Array Value) : laidMet Tryd.prog laidS ((laidWorld os).forCall (fun _ _ => 0) ⟨#[], args, []⟩).memory :=
  laidMet_of_run' 8 (by kernel_rfl) (by kernel_rfl)
theorem own : ownKnob Tryd.prog.godebug = none := by kernel_rfl
theorem laidOut : laidOutB Tryd.prog = true := by kernel_rfl
end Go.Proofs.YthmkfbabacehnaaDoor
