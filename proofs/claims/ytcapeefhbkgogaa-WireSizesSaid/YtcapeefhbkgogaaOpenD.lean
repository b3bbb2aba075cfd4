/- WireSizes' walk, the numbers as they came. -/
import Derived.Test.YtcapeefhbkgogaaOpenV
import Derived.Test.YtcapeefhbkgogaaSizesW
namespace Go.Proofs.Ytcapeefhbkgogaa
open Go.ChangeShapes Go.WideShapes Go.ChangeAt Go.RowKit
theorem sizes_int (w : World) (x : Int) (hx : 0 ≤ x ∧ x < 18446744073709551616) (a : Int) (ha : -9223372036854775808 ≤ a ∧ a ≤ 9223372036854775807) :
    Calls Try.prog 10 #[.int .u64 x, .int .i64 a] w fun e w' => e = .returned (.bool true) ∧ Below w.heap.size w w' := by
  obtain ⟨n, rfl⟩ : ∃ n : Nat, x = n := ⟨x.toNat, by omega⟩
  exact sizes_walk n (by omega) a ha.1 ha.2 w
end Go.Proofs.Ytcapeefhbkgogaa
