/- WireBack's walk, the byte by its number. -/
import Derived.Test.YtcapeefhbkgogaaOpenV
import Derived.Test.YtcapeefhbkgogaaBackW
namespace Go.Proofs.Ytcapeefhbkgogaa
open Go.ChangeShapes Go.WideShapes Go.ChangeAt Go.RowKit
set_option linter.unusedVariables false
theorem back_int (A : Option Addr) (n c : Nat) (vs : List VV) (w : World) (h : VS w.heap.size w A n vs) (hv : ∀ v ∈ vs, VV.Ok v) (hn : n ≤ 70368744177664) (a : Int) (ha : 0 ≤ a ∧ a < 256) :
    Calls Try.prog 6 #[.slice A n c, .int .u8 a] w fun e w' => e = .returned (.bool true) ∧ Below w.heap.size w w' := by
  obtain ⟨x, rfl⟩ : ∃ x : Nat, a = x := ⟨a.toNat, by omega⟩
  exact back_walk A n c vs x (by omega) w h hv hn
end Go.Proofs.Ytcapeefhbkgogaa
