/- EffectsGrow's walk, the numbers as they came. -/
import Derived.Test.YthmkfbabacehnaaGrowW
namespace Go.Proofs.Ythmkfbabacehnaa
open Go.RowKit Go.Shelf
set_option linter.unusedSimpArgs false
set_option linter.unusedVariables false
set_option linter.unusedSectionVars false
set_option maxRecDepth 10000
theorem grow_int (w : World) (a0 a1 a3 a4 : Int) (A : Option Addr) (n c : Nat) (h0 : 0 ≤ a0 ∧ a0 < 256) (h1 : 0 ≤ a1 ∧ a1 < 65536) (h3 : 0 ≤ a3 ∧ a3 < 256) (h4 : 0 ≤ a4 ∧ a4 < 256) (hB : BY w A n) : Calls Try.prog 5 #[.int .u8 a0, .int .u16 a1, .slice A n c, .int .u8 a3, .int .u8 a4] w fun e w' => e = .returned (.bool true) ∧ Below w.heap.size w w' := by
  obtain ⟨s, rfl⟩ : ∃ s : Nat, a0 = s := ⟨a0.toNat, by omega⟩
  obtain ⟨g, rfl⟩ : ∃ g : Nat, a1 = g := ⟨a1.toNat, by omega⟩
  obtain ⟨t, rfl⟩ : ∃ t : Nat, a3 = t := ⟨a3.toNat, by omega⟩
  obtain ⟨p, rfl⟩ : ∃ p : Nat, a4 = p := ⟨a4.toNat, by omega⟩
  exact grow_walk s g t p (by omega) (by omega) (by omega) (by omega) A n c w hB
end Go.Proofs.Ythmkfbabacehnaa
