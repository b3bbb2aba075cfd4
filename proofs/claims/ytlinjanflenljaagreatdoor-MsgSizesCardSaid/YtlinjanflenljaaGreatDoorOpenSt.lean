/- A slice of strings as an argument. -/
import Derived.Test.YtlinjanflenljaaGreatDoorOpenBy
import Derived.Deep.Slices
namespace Go.Proofs.YtlinjanflenljaaGreatDoor
open Go.RowKit
set_option linter.unusedSimpArgs false
set_option linter.unusedVariables false
set_option linter.unusedSectionVars false
set_option maxRecDepth 10000
def encT (v : List UInt8) : List Value := [.string (sOf v)]
theorem encT_len (v : List UInt8) : (encT v).length = 1 := rfl
open Go.ChangeShapes Go.WideShapes Go.Deep Go.Joins
section
variable {H : Type} {enc : TypeId × Value → H} {w : World} {r : Reach} {b0 : Nat}
theorem open_strs {v : Value} {d : DataW H} {p : List MemPlace} (hval : Value.okWide Tryz.prog w r b0 43 v) (h : DataW.Trod enc Tryz.prog w 0 (fun _ => true) true 43 v d p) :
    ∃ A n c l, v = .slice A n c ∧ SL encT 1 w A n l := by
  obtain ⟨A, n, c, rfl⟩ := okWide_slice Tryz.underlying43 hval
  obtain ⟨fuel, hf⟩ := h
  rcases open_slice Tryz.underlying43 hf with ⟨hcs, hx⟩ | ⟨a, len, cap, m, q, D, Pl, hcs, _, hl, hm, hmm, hx, hi⟩
  · simp [Value.cells] at hcs
    obtain ⟨rfl, rfl, rfl⟩ := hcs
    exact ⟨none, 0, 0, [], rfl, SL.nil _ _⟩
  · simp [Value.cells] at hcs
    obtain ⟨rfl, rfl, rfl⟩ := hcs
    simp only [if_true] at hmm
    subst hmm
    have hC : Tryz.prog.cellsOf 9 = 1 := by kernel_rfl
    rw [hC] at hi
    have hel : ∀ i, i < n → ∃ s : List UInt8, w.cell? (a.add (i * 1)) = some (.string (sOf s)) := by
      intro i hin
      obtain ⟨cs', hc, ht⟩ := hi i (by omega)
      obtain ⟨_, hcl, hat⟩ := World.cells?_some hc
      obtain ⟨s, rfl, _, _⟩ := DataW.trod_string Tryz.underlying9 ht
      refine ⟨s.data.toList, ?_⟩
      have := hat 0 (by omega)
      rw [sOf_data]
      simpa [Addr.add] using this
    let F : Nat → List UInt8 := fun i => if hin : i < n then (hel i hin).choose else []
    have hF : ∀ i (hin : i < n), w.cell? (a.add (i * 1)) = some (.string (sOf (F i))) := by
      intro i hin
      have := (hel i hin).choose_spec
      simp only [F, dif_pos hin]
      exact this
    refine ⟨some a, n, _, (List.range n).map F, rfl, by simp, fun hn => ?_⟩
    have h0 := hF 0 hn
    have hb := World.block_lt_of_cell? w (a.add (0 * 1)) h0
    have hs := World.cell?_spot h0
    rw [blk_addM] at hb
    have hsp : a.spot = none := by simpa [Addr.add] using hs
    obtain ⟨ab, ao, asp⟩ := a
    simp only at hsp
    subst hsp
    refine ⟨ab, ao, rfl, hb, fun i u hu j x hx => ?_⟩
    have hil := (List.getElem?_eq_some_iff.1 hu).1
    simp only [List.length_map, List.length_range] at hil
    rw [List.getElem?_map, List.getElem?_range hil] at hu
    simp only [Option.map_some, Option.some.injEq] at hu
    subst hu
    have hj : j = 0 := by have := (List.getElem?_eq_some_iff.1 hx).1; simp [encT] at this; omega
    subst hj
    simp only [encT, List.getElem?_cons_zero, Option.some.injEq] at hx
    subst hx
    have := hF i hil
    rw [Addr.add_lit] at this
    exact this
end
end Go.Proofs.YtlinjanflenljaaGreatDoor
