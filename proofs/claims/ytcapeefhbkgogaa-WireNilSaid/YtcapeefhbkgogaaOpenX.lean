/- A value as an argument. -/
import Derived.Test.YtcapeefhbkgogaaOpenV
import Derived.Lib.SmallJoins
import Derived.ChangeOld
namespace Go.Proofs.Ytcapeefhbkgogaa
open Go.Joins Go.ChangeShapes Go.WideShapes Go.Deep Go.RowKit
set_option linter.unusedVariables false
set_option maxRecDepth 10000
section
variable {H : Type} {enc : TypeId × Value → H} {w : World} {r : Reach} {b0 : Nat}
theorem open_val {v : Value} {d : DataW H} {p : List MemPlace} (hval : Value.okWide Try.prog w r b0 31 v) (h : DataW.Trod enc Try.prog w 0 (fun _ => true) true 31 v d p) (hw : Weighs Try.prog 31 d) :
    ∃ u : VV, v = .agg #[.int .u8 u.k, .int .u64 u.n, .string u.s] ∧ u.Ok := by
  obtain ⟨c0, c1, c2, y0, y1, y2, m, rfl, rfl, rfl, g0, g1, g2⟩ := open_agg3 Try.underlying31 (by kernel_rfl) (by kernel_rfl) hval h
  obtain ⟨a0, e0, rfl, w0⟩ := DataW.trod_int Try.underlying5 g0
  obtain ⟨a1, e1, rfl, w1⟩ := DataW.trod_int Try.underlying29 g1
  obtain ⟨a2, e2, rfl, w2⟩ := DataW.trod_string Try.underlying9 g2
  simp only [List.cons.injEq, and_true] at e0 e1 e2
  subst e0 e1 e2
  obtain ⟨b1, b2⟩ := u8_of w0
  obtain ⟨b3, b4⟩ := u64_of w1
  refine ⟨⟨a0.toNat, a1.toNat, a2⟩, ?_, ⟨by simp only; omega, by simp only; omega, ?_⟩⟩
  · simp only
    rw [show ((a0.toNat : Nat) : Int) = a0 from by omega, show ((a1.toNat : Nat) : Int) = a1 from by omega]
  · have hr := reachBytes_lt
    have := hw a2.data.toList.length (by
      simp only [DataW.weights, Try.underlying31]
      exact DataW.weights_mem_each (j := 2) (d := .lit (.string a2.data.toList)) rfl rfl _ (by simp [DataW.weights]))
    rw [Array.length_toList] at this
    show a2.data.size ≤ _
    omega
end
end Go.Proofs.Ytcapeefhbkgogaa
