/- A list of bytes, as an argument. -/
import Derived.Test.YthmkfbabacehnaaOpens
import Derived.Test.YthmkfbabacehnaaOpenE
namespace Go.Proofs.Ythmkfbabacehnaa
open Go.RowKit
set_option linter.unusedSimpArgs false
set_option linter.unusedVariables false
set_option linter.unusedSectionVars false
set_option maxRecDepth 10000
open Go.ChangeShapes Go.WideShapes Go.Deep
/-- A slice reads as bytes. -/
def BY (w : World) (A : Option Addr) (n : Nat) : Prop := 0 < n → ∃ b o, A = some ⟨b, o, none⟩ ∧ b < w.heap.size ∧ ∀ i, i < n → ∃ z : Nat, z < 256 ∧ w.cell? ⟨b, o + i, none⟩ = some (.int .u8 z)
theorem BY.keep {w W : World} {A : Option Addr} {n : Nat} (h : BY w A n) (hb : Below w.heap.size w W) : BY W A n := fun hn => by
  obtain ⟨b, o, e, hl, hc⟩ := h hn
  refine ⟨b, o, e, Nat.lt_of_lt_of_le hl hb.size, fun i hi => ?_⟩
  obtain ⟨z, hz, hz2⟩ := hc i hi
  exact ⟨z, hz, (hb.cell (p := ⟨b, _, none⟩) hl).trans hz2⟩
theorem u8_of2 {n : Int} (h : (Lit.int .u8 n).wf = true) : 0 ≤ n ∧ n < 256 := by
  simp [Lit.wf, IntKind.min, IntKind.max, IntKind.signed, IntKind.bits] at h; omega
theorem u16_of {n : Int} (h : (Lit.int .u16 n).wf = true) : 0 ≤ n ∧ n < 65536 := by
  simp [Lit.wf, IntKind.min, IntKind.max, IntKind.signed, IntKind.bits] at h; omega
section
variable {H : Type} {enc : TypeId × Value → H} {w : World} {r : Reach} {b0 : Nat}
theorem open_u8s {v : Value} {d : DataW H} {p : List MemPlace} (hval : Value.okWide Try.prog w r b0 38 v) (h : DataW.Trod enc Try.prog w 0 (fun _ => true) true 38 v d p) (hw : Weighs Try.prog 38 d) :
    ∃ A n c, v = .slice A n c ∧ BY w A n ∧ n ≤ c ∧ n ≤ 140737488355328 := by
  obtain ⟨A, n, c, rfl⟩ := okWide_slice Try.underlying38 hval
  obtain ⟨fuel, hf⟩ := h
  rcases open_ints Try.underlying38 Try.underlying5 (by kernel_rfl) hf with ⟨hcs, hx⟩ | ⟨a, len, cap, zs, hcs, _, hl, hm, hz, hx, hcell, hwz⟩
  · simp [Value.cells] at hcs
    obtain ⟨rfl, rfl, rfl⟩ := hcs
    exact ⟨none, 0, 0, rfl, fun h => absurd h (by omega), by omega, by omega⟩
  · simp [Value.cells] at hcs
    obtain ⟨rfl, rfl, rfl⟩ := hcs
    simp only [Prod.mk.injEq] at hx
    obtain ⟨rfl, rfl⟩ := hx
    simp only [if_true] at hz
    have hwn := hw ((lits IntKind.u8 (zs.take n) : List (DataW H)).length + (lits IntKind.u8 (zs.drop n) : List (DataW H)).length) (by
      simp only [DataW.weights, Try.underlying38]
      rw [show Try.prog.bytesOf 5 = 1 from by kernel_rfl, Nat.mul_one]
      exact List.mem_cons_self ..)
    have hr := reachBytes_lt
    simp only [lits, List.length_map, List.length_take, List.length_drop] at hwn
    refine ⟨some a, n, c, rfl, fun hn => ?_, hl, by omega⟩
    have h0 := hcell 0 (by omega)
    have hb := World.block_lt_of_cell? w (a.add 0) h0
    have hs := World.cell?_spot h0
    rw [blk_add] at hb
    have hsp : a.spot = none := by simpa [Addr.add] using hs
    obtain ⟨ab, ao, asp⟩ := a
    simp only at hsp
    subst hsp
    refine ⟨ab, ao, rfl, hb, fun i hi => ?_⟩
    have hc := hcell i (by omega)
    have hg : zs[i]? = some (zs[i]'(by omega)) := List.getElem?_eq_getElem _
    have hzz := u8_of2 (hwz _ (List.mem_of_getElem? hg))
    rw [Addr.add_lit] at hc
    simp only [List.getD, hg, Option.getD_some] at hc
    refine ⟨(zs[i]'(by omega)).toNat, by omega, ?_⟩
    rw [Int.toNat_of_nonneg hzz.1]
    exact hc
end
end Go.Proofs.Ythmkfbabacehnaa
