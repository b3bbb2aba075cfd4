/- Tables of what was done: their entries as cells. -/
import Derived.Test.YtkdfhackpmdgfaaGreatDoorDedQ
import Derived.Test.YtkdfhackpmdgfaaGreatDoorEf
import Derived.Test.YtkdfhackpmdgfaaGreatDoorRowC
import Derived.Test.YtkdfhackpmdgfaaGreatDoorShelf
namespace Go.Proofs.YtkdfhackpmdgfaaGreatDoor
open Go.RowKit Go.Shelf
set_option linter.unusedSimpArgs false
set_option linter.unusedVariables false
set_option linter.unusedSectionVars false
set_option maxRecDepth 10000
def encP (x : En) : List Value := [.int .i64 x.r.1, .int .i64 x.r.2.1, .string x.r.2.2, .int .i64 x.e.1, .int .i64 x.e.2.1, .int .i64 x.e.2.2, .string x.k]
def encR (x : En) : List Value := [.int .i64 x.e.1, .int .i64 x.e.2.1, .int .i64 x.e.2.2, .string x.k, .int .i64 x.r.1, .int .i64 x.r.2.1, .string x.r.2.2]
theorem encP_len (x : En) : (encP x).length = 7 := rfl
theorem encR_len (x : En) : (encR x).length = 7 := rfl
theorem encP_one (x : En) : ∀ u ∈ encP x, u.oneCell' = true := by intro u hu; simp [encP] at hu; rcases hu with rfl | rfl | rfl | rfl | rfl | rfl | rfl <;> rfl
theorem encR_one (x : En) : ∀ u ∈ encR x, u.oneCell' = true := by intro u hu; simp [encR] at hu; rcases hu with rfl | rfl | rfl | rfl | rfl | rfl | rfl <;> rfl
theorem elemP : Elem Tryz.prog 62 67 7 72 := elem_of (z := .agg #[.int .i64 0, .int .i64 0, .string ⟨#[]⟩, .int .i64 0, .int .i64 0, .int .i64 0, .string ⟨#[]⟩]) Tryz.underlying62 (by kernel_rfl) rfl (by omega)
/-- A slice reads as entries: of the program, of the document. -/
def PS (w : World) (A : Option Addr) (n : Nat) (l : List En) : Prop := SL encP 7 w A n l
def RS (w : World) (A : Option Addr) (n : Nat) (l : List En) : Prop := SL encR 7 w A n l
end Go.Proofs.YtkdfhackpmdgfaaGreatDoor
