/- An effect as an argument. -/
import Derived.Test.YtkdfhackpmdgfaaGreatDoorOpens
import Derived.Test.YtkdfhackpmdgfaaGreatDoorEf
import Derived.Lib.SmallJoins
import Derived.ChangeOld
namespace Go.Proofs.YtkdfhackpmdgfaaGreatDoor
open Go.RowKit
set_option linter.unusedSimpArgs false
set_option linter.unusedVariables false
set_option linter.unusedSectionVars false
set_option maxRecDepth 10000
open Go.ChangeShapes Go.WideShapes Go.Deep Go.Joins
theorem u8_of {n : Int} (h : (Lit.int .u8 n).wf = true) : 0 ≤ n ∧ n ≤ 255 := by
  simp [Lit.wf, IntKind.min, IntKind.max, IntKind.signed, IntKind.bits] at h; omega
theorem u16_of {n : Int} (h : (Lit.int .u16 n).wf = true) : 0 ≤ n ∧ n ≤ 65535 := by
  simp [Lit.wf, IntKind.min, IntKind.max, IntKind.signed, IntKind.bits] at h; omega
theorem i32_of {n : Int} (h : (Lit.int .i32 n).wf = true) : -2147483648 ≤ n ∧ n ≤ 2147483647 := by
  simp [Lit.wf, IntKind.min, IntKind.max, IntKind.signed, IntKind.bits] at h; omega
section
variable {H : Type} {enc : TypeId × Value → H} {w : World} {r : Reach} {b0 : Nat}
theorem open_eff {v : Value} {d : DataW H} {p : List MemPlace} (hval : Value.okWide Tryz.prog w r b0 39 v) (h : DataW.Trod enc Tryz.prog w 0 (fun _ => true) true 39 v d p) :
    ∃ y : Ef, v = .agg #[.int .i64 y.1, .int .i64 y.2.1, .int .i64 y.2.2] := by
  obtain ⟨v0, v1, v2, y0, y1, y2, m, rfl, rfl, rfl, t0, t1, t2⟩ := open_agg3 Tryz.underlying39 (by kernel_rfl) (by kernel_rfl) hval h
  obtain ⟨a0, e0, x0, w0⟩ := DataW.trod_int Tryz.underlying3 t0
  obtain ⟨a1, e1, x1, w1⟩ := DataW.trod_int Tryz.underlying3 t1
  obtain ⟨a2, e2, x2, w2⟩ := DataW.trod_int Tryz.underlying3 t2
  simp only [List.cons.injEq, and_true] at e0 e1 e2
  subst e0 e1 e2
  exact ⟨(a0, a1, a2), rfl⟩
theorem open_rg {v : Value} {d : DataW H} {p : List MemPlace} (hval : Value.okWide Tryz.prog w r b0 31 v) (h : DataW.Trod enc Tryz.prog w 0 (fun _ => true) true 31 v d p) (hw : Weighs Tryz.prog 31 d) :
    ∃ a b : ByteArray, v = .agg #[.string a, .string b] ∧ a.size ≤ 140737488355328 ∧ b.size ≤ 140737488355328 := by
  obtain ⟨v0, v1, y0, y1, m, rfl, rfl, rfl, t0, t1⟩ := open_agg2 Tryz.underlying31 (by kernel_rfl) (by kernel_rfl) hval h
  obtain ⟨s0, e0, x0, w0⟩ := DataW.trod_string Tryz.underlying9 t0
  obtain ⟨s1, e1, x1, w1⟩ := DataW.trod_string Tryz.underlying9 t1
  simp only [List.cons.injEq, and_true] at e0 e1
  subst e0 e1
  have hr := reachBytes_lt
  have h0 : s0.data.toList.length ≤ reachBytes := hw _ (by
    simp only [DataW.weights, Tryz.underlying31]
    refine DataW.weights_mem_each (j := 0) (d := .lit (.string s0.data.toList)) rfl ?_ _ (by simp [DataW.weights])
    rw [x0]; rfl)
  have h1 : s1.data.toList.length ≤ reachBytes := hw _ (by
    simp only [DataW.weights, Tryz.underlying31]
    refine DataW.weights_mem_each (j := 1) (d := .lit (.string s1.data.toList)) rfl ?_ _ (by simp [DataW.weights])
    rw [x1]; rfl)
  rw [Array.length_toList] at h0 h1
  refine ⟨s0, s1, rfl, ?_, ?_⟩
  · show s0.data.size ≤ _
    omega
  · show s1.data.size ≤ _
    omega
end
end Go.Proofs.YtkdfhackpmdgfaaGreatDoor
