/- The document's table: where an effect is. -/
import Derived.Test.YtkdfhackpmdgfaaDoorRTab
import Derived.Test.YtkdfhackpmdgfaaDoorEqE
namespace Go.Proofs.YtkdfhackpmdgfaaDoor
open Go.RowKit Go.Shelf
set_option linter.unusedSimpArgs false
set_option linter.unusedVariables false
set_option linter.unusedSectionVars false
set_option maxRecDepth 10000
def findI (R : List En) (y : Ef) : Int := match R.findIdx? (fun x => decide (x.e = y)) with | some i => (i : Int) | none => -1
theorem findI_at {R : List En} {y : Ef} {k : Nat} {x : En} (hx : R[k]? = some x) (he : x.e = y) (hn : ∀ z ∈ R.take k, z.e ≠ y) : findI R y = k := by
  have hk : k < R.length := (List.getElem?_eq_some_iff.1 hx).1
  have : R.findIdx? (fun x => decide (x.e = y)) = some k := by
    rw [List.findIdx?_eq_some_iff_getElem]
    refine ⟨hk, ?_, fun j hj => ?_⟩
    · have := (List.getElem?_eq_some_iff.1 hx).2
      rw [this]; simpa using he
    · have h1 : R[j]'(by omega) ∈ R.take k := by
        rw [List.mem_take_iff_getElem]
        exact ⟨j, by omega, rfl⟩
      simpa using hn _ h1
  unfold findI
  rw [this]
theorem findI_no {R : List En} {y : Ef} (hn : ∀ z ∈ R, z.e ≠ y) : findI R y = -1 := by
  have : R.findIdx? (fun x => decide (x.e = y)) = none := by
    rw [List.findIdx?_eq_none_iff]
    intro x hx
    simpa using hn x hx
  unfold findI
  rw [this]
theorem take_more {R : List En} {k : Nat} {x z : En} (hx : R[k]? = some x) (hz : z ∈ R.take (k + 1)) : z ∈ R.take k ∨ z = x := by
  rw [List.take_add_one, hx] at hz
  simpa using hz
/-- Where it is, and what is there. -/
theorem findI_look (R : List En) (y : Ef) : (findI R y = -1 ∧ look R y = none) ∨ ∃ (i : Nat) (x : En), findI R y = i ∧ R[i]? = some x ∧ look R y = some x := by
  unfold findI look
  cases h : R.findIdx? (fun x => decide (x.e = y)) with
  | none =>
    refine .inl ⟨rfl, ?_⟩
    rw [List.findIdx?_eq_none_iff] at h
    rw [List.find?_eq_none]
    intro x hx
    have := h x hx
    simp only [decide_eq_false_iff_not] at this
    simpa using this
  | some i =>
    obtain ⟨hi, hp, hn⟩ := List.findIdx?_eq_some_iff_getElem.1 h
    refine .inr ⟨i, R[i], rfl, List.getElem?_eq_getElem hi, ?_⟩
    rw [List.find?_eq_some_iff_getElem]
    exact ⟨hp, i, hi, rfl, fun j hj => by have := hn j hj; simpa using this⟩
set_option maxHeartbeats 8000000 in
theorem rfind_any {base D c : Nat} {size : Int} {A : Option Addr} {P : List En} {w : World} (h : TabR base D size A c P w) (y : Ef) : Calls Tryd.prog 53 #[.pointer (some ⟨D, 0, none⟩), .agg #[.int .i64 y.1, .int .i64 y.2.1, .int .i64 y.2.2]] w fun e w' => e = .returned (.int .i64 (findI P y)) ∧ Below w.heap.size w w' := by
  have kb := (Below.refl w.heap.size w).alloc (Nat.le_refl _) (.cells #[.int .i64 y.1, .int .i64 y.2.1, .int .i64 y.2.2] 23)
  have hb := hpNew w (.cells #[.int .i64 y.1, .int .i64 y.2.1, .int .i64 y.2.2] 23)
  have hT := h.below kb
  have hlen : P.length ≤ 2048 := by have := h.le; have := h.sz; omega
  obtain ⟨W1, hW1⟩ : ∃ W1, W1 = w.alloc (.cells #[.int .i64 y.1, .int .i64 y.2.1, .int .i64 y.2.2] 23) := ⟨_, rfl⟩
  rw [← hW1] at kb hb hT
  replace kb := Lib.hid kb; replace hb := Lib.hid hb; replace hT := Lib.hid hT
  clear h
  go_enter Tryd.func53, Tryd.ntmps53
  go_wp2_with (fail)
  rw [← hW1]
  replace hW1 := Lib.hid hW1
  obtain ⟨B, hB⟩ : ∃ B, B = w.heap.size := ⟨_, rfl⟩
  rw [← hB] at hb ⊢
  replace hB := Lib.hid hB
  go_loopw [5] (fun i wr => ∃ k : Nat, i = .int .i64 k ∧ k ≤ P.length ∧ (∀ z ∈ P.take k, z.e ≠ y) ∧ Below W1.heap.size W1 wr) (fun i _ => P.length - (intOf i).toNat)
  case atStart => exact ⟨0, rfl, by omega, by simp, Below.refl _ _⟩
  case round =>
    revert wr
    intro w3 hrel
    obtain ⟨k, rfl, hk, hn, hb3⟩ := hrel
    have T3 := hT.out.below hb3
    have b3 := (hb3.block _ (blkX hb.out)).trans hb.out
    have t1 := blkC T3.blk 1
    have y0 := blkC b3 0; have y1 := blkC b3 1; have y2 := blkC b3 2
    simp only [List.getElem?_toArray, List.getElem?_cons_zero, List.getElem?_cons_succ] at t1 y0 y1 y2
    replace b3 := Lib.hid b3
    by_cases hlt : k < P.length
    · obtain ⟨xb, xo, x, rfl, hxl, hx, hcell⟩ := T3.rs.at_ hlt
      have c0 := hcell 0 _ rfl; have c1 := hcell 1 _ rfl; have c2 := hcell 2 _ rfl
      rw [Nat.add_zero] at c0
      have j0 : (0 : Int) ≤ k := by omega
      have j1 : (k : Int) < P.length := by omega
      have hq := (eqE.1 x.e y)
      simp only [encE] at hq
      replace T3 := Lib.hid T3; replace hn := Lib.hid hn; replace hx := Lib.hid hx; replace hb3 := Lib.hid hb3
      clear hcell
      by_cases he : x.e = y
      · simp only [he, decide_true] at hq
        rw [he] at c0 c1 c2
        go_wp2_with (fail)
        go_quiet (fail)
        go_wp2_with (fail)
        go_ret
        exact ⟨by rw [findI_at hx.out he hn.out]; rfl, by exact below_drewN (kb.out.trans (hb3.out.mono kb.out.size)) _⟩
      · simp only [he, decide_false] at hq
        go_wp2_with (fail)
        go_quiet (fail)
        go_wp2_with (fail)
        exact ⟨⟨k + 1, by go_num, by omega, fun z hz => (take_more hx.out hz).elim (fun q => hn.out z q) (fun q => by rw [q]; exact he), below_drewN hb3.out _⟩, by simp [intOf]; omega⟩
    · obtain rfl : k = P.length := by omega
      rw [List.take_length] at hn
      replace T3 := Lib.hid T3; replace hn := Lib.hid hn; replace hb3 := Lib.hid hb3
      go_wp2_with (fail)
      go_ret
      exact ⟨by rw [findI_no hn.out]; rfl, by exact kb.out.trans (hb3.out.mono kb.out.size)⟩
end Go.Proofs.YtkdfhackpmdgfaaDoor
