/- Lists of effects of the call's own, beside a table that turns. -/
import Derived.Test.YtkdfhackpmdgfaaDoorFill
namespace Go.Proofs.YtkdfhackpmdgfaaDoor
open Go.RowKit Go.Shelf
set_option linter.unusedSimpArgs false
set_option linter.unusedVariables false
set_option linter.unusedSectionVars false
set_option maxRecDepth 10000
structure ER (W : World) (A : Option Addr) (m : Nat) (l : List Ef) : Prop where
  es : ES W A m l
  bl : ∀ g, rowOf A = some g → ∃ cs, W.heap[g]? = some (.cells cs 23 (0, 0))
theorem ES.same {w w' : World} {A : Option Addr} {m : Nat} {l : List Ef} (h : ES w A m l) (hk : ∀ g, rowOf A = some g → w'.heap[g]? = w.heap[g]?) : ES w' A m l := by
  refine ⟨h.1, fun hn => ?_⟩
  obtain ⟨b, o, e, hl, hc⟩ := h.2 hn
  have hb := hk b (by rw [e]; rfl)
  have hl' : b < w'.heap.size := by
    rcases Nat.lt_or_ge b w'.heap.size with q | q
    · exact q
    · rw [Array.getElem?_eq_none q, Array.getElem?_eq_getElem hl] at hb; cases hb
  exact ⟨b, o, e, hl', fun i x hx j u hu => (World.cell?_of_block (w := w) (a := ⟨b, _, none⟩) hb).trans (hc i x hx j u hu)⟩
theorem ER.below {w w' : World} {A : Option Addr} {m : Nat} {l : List Ef} (h : ER w A m l) (hb : Below w.heap.size w w') : ER w' A m l :=
  ⟨SL.keep h.es hb, fun g hg => by obtain ⟨cs, hh⟩ := h.bl g hg; exact ⟨cs, (hb.block g (blkX hh)).trans hh⟩⟩
theorem ER.kp {base D : Nat} {size : Int} {P : List En} {w0 w w' : World} {A : Option Addr} {m : Nat} {l : List Ef} (h : ER w A m l) (T : Tb base w0 D size P w) (hk : Kp D w w') : ER w' A m l := by
  have hD : ∀ g cs, w.heap[g]? = some (.cells cs 23 (0, 0)) → g ≠ D := by
    rintro g cs hh rfl
    obtain ⟨A', c, ht⟩ := T.tab
    have := ht.blk
    rw [hh] at this
    injection this with this
    injection this with _ this
    exact absurd this (by decide)
  refine ⟨ES.same h.es fun g hg => ?_, fun g hg => ?_⟩
  · obtain ⟨cs, hh⟩ := h.bl g hg
    exact (hk g cs _ _ hh (hD g cs hh) (by decide)).trans hh.symm
  · obtain ⟨cs, hh⟩ := h.bl g hg
    exact ⟨cs, hk g cs _ _ hh (hD g cs hh) (by decide)⟩
/-- What is there is not put again. -/
theorem put_have {size : Int} {P : List En} {y : Ef} {key : ByteArray} {r : Rp} (hE : okE y = true) (hk : nameB key = true) (hr : okR r = true) (hh : hasB P y = true) : putC size P ⟨y, key, r⟩ = 6 ∧ putL size P ⟨y, key, r⟩ = P := by
  have hc : putC size P ⟨y, key, r⟩ = 6 := by
    unfold putC
    rw [if_pos (show okP ⟨y, key, r⟩ = true by unfold okP; rw [hE, hk, hr]; rfl), if_pos (show (look P y).isSome = true from hh)]
  exact ⟨hc, by unfold putL; rw [hc, if_neg (by decide)]⟩
/-- A member of a filled table. -/
theorem Fil.member {size : Int} {P : List En} {Q : List Mo} (h : Fil size P Q) {y : Ef} (hy : y ∈ P.map En.e) : ∃ m, mof Q y = some m ∧ moE m = y ∧ okM m ∧ hasB P y = true ∧ getR P y = moR m ∧ getK P y = moK m := by
  obtain ⟨x, hx, rfl⟩ := List.mem_map.1 hy
  have h1 : hasB P x.e = true := look_is hx rfl
  rw [h.has] at h1
  obtain ⟨m, hm⟩ := Option.isSome_iff_exists.1 h1
  obtain ⟨m1, m2⟩ := mof_some hm
  refine ⟨m, hm, m2, h.ok m m1, by rw [h.has, hm]; rfl, ?_, ?_⟩
  · unfold getR; rw [h.look, hm]; rfl
  · unfold getK; rw [h.look, hm]; rfl
theorem ord_next {P : List En} (h : Ord P) {k : Nat} {x y : Ef} (hx : (P.map En.e)[k]? = some x) (hy : (P.map En.e)[k + 1]? = some y) : cmpE x y < 0 := by
  rw [cmpE_neg]
  rw [List.getElem?_map, Option.map_eq_some_iff] at hx hy
  obtain ⟨a, ha, rfl⟩ := hx
  obtain ⟨b, hb, rfl⟩ := hy
  obtain ⟨h1, rfl⟩ := List.getElem?_eq_some_iff.1 ha
  obtain ⟨h2, rfl⟩ := List.getElem?_eq_some_iff.1 hb
  exact List.pairwise_iff_getElem.1 h k (k + 1) h1 h2 (by omega)
end Go.Proofs.YtkdfhackpmdgfaaDoor
