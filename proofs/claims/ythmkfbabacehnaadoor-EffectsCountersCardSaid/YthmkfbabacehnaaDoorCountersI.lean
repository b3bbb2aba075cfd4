/- EffectsCounters' walk, the numbers as they came. -/
import Derived.Test.YthmkfbabacehnaaDoorCountersW
namespace Go.Proofs.YthmkfbabacehnaaDoor
open Go.RowKit Go.Shelf
set_option linter.unusedSimpArgs false
set_option linter.unusedVariables false
set_option linter.unusedSectionVars false
set_option maxRecDepth 10000
theorem counters_int (nm : ByteArray) (r dl : Int) (A : Option Addr) (n c : Nat) (ss : List St) (a b : Int) (h1 : 0 ≤ a ∧ a < 256) (h2 : 0 ≤ b ∧ b < 256) (w : World) (hD : IsDef w nm A n c ss) (hL : LdA w) (hH : LdH w) :
    Calls Tryd.prog 5 #[.agg #[.string nm, .int .i64 r, .int .i64 dl, .slice A n c], .int .u8 a, .int .u8 b] w fun e w' => e = .returned (.bool true) ∧ Below w.heap.size w w' := by
  obtain ⟨s, rfl⟩ : ∃ s : Nat, a = s := ⟨a.toNat, by omega⟩
  obtain ⟨g, rfl⟩ : ∃ g : Nat, b = g := ⟨b.toNat, by omega⟩
  exact counters_walk nm r dl A n c ss s g (by omega) (by omega) w hD hL hH
end Go.Proofs.YthmkfbabacehnaaDoor
