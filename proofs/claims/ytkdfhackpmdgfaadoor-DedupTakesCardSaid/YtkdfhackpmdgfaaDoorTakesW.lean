/- The walk of DedupTakes. -/
import Derived.Test.YtkdfhackpmdgfaaDoorTakesA
import Derived.Test.YtkdfhackpmdgfaaDoorTakesB
namespace Go.Proofs.YtkdfhackpmdgfaaDoor
open Go.RowKit Go.Shelf
theorem takes_walk {A : Option Addr} {n c : Nat} {ms : List Mo} (a b : Int) (ha : 0 ≤ a ∧ a ≤ 255) (hb : 0 ≤ b ∧ b ≤ 255) (w : World) (hA : MS w A n ms) (hm : ∀ m ∈ ms, okM m) (hc : n ≤ c) (hn : n ≤ 140737488355328) : Calls Tryd.prog 9 #[.slice A n c, .int .u8 a, .int .u8 b] w fun e w' => e = .returned (.bool true) ∧ Below w.heap.size w w' := by
  by_cases h : min a b % 26 < max a b % 26
  · exact takes_walkB a b _ _ rfl rfl (by omega) (by omega) (by omega) (by omega) h w hA hm hc hn
  · exact takes_walkA a b _ _ rfl rfl (by omega) (by omega) (by omega) (by omega) (by omega) w hA hm hc hn
end Go.Proofs.YtkdfhackpmdgfaaDoor
