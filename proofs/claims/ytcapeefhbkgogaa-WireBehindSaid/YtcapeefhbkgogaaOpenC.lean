/- A slice's length is within its capacity; a byte by its number. -/
import Derived.Test.YtcapeefhbkgogaaOpenV
import Derived.Test.YtcapeefhbkgogaaBehindW
namespace Go.Proofs.Ytcapeefhbkgogaa
open Go.ChangeShapes Go.WideShapes Go.ChangeAt Go.RowKit
set_option linter.unusedVariables false
theorem cap_of {H : Type} {enc : TypeId × Value → H} {w : World} {A : Option Addr} {n c : Nat} {d : DataW H} {p : List MemPlace} (h : DataW.Trod enc Try.prog w 0 (fun _ => true) true 22 (.slice A n c) d p) : n ≤ c := by
  obtain ⟨fuel, hf⟩ := h
  rcases open_slice_fields Try.underlying22 Try.underlying31 (by kernel_rfl) (by kernel_rfl) hf with ⟨hcs, hx⟩ | ⟨a, len, cap, m, D, Pl, hcs, _, hl, hm, hmm, hx, hi⟩
  · simp [Value.cells] at hcs
    omega
  · simp [Value.cells] at hcs
    obtain ⟨rfl, rfl, rfl⟩ := hcs
    exact hl
theorem behind_int (A : Option Addr) (n c : Nat) (vs : List VV) (w : World) (h : VS w.heap.size w A n vs) (hv : ∀ v ∈ vs, VV.Ok v) (hn : n ≤ 70368744177664) (hc : n ≤ c) (a : Int) (ha : 0 ≤ a ∧ a < 256) :
    Calls Try.prog 8 #[.slice A n c, .int .u8 a] w fun e w' => e = .returned (.bool true) ∧ Below w.heap.size w w' := by
  obtain ⟨x, rfl⟩ : ∃ x : Nat, a = x := ⟨a.toNat, by omega⟩
  exact behind_walk A n c vs x (by omega) w h hv hc hn
end Go.Proofs.Ytcapeefhbkgogaa
