/- A row of structs of the call's own, and the library's words for it (HoldsK, putRowK): to them and back. No program in sight. -/
import Derived.Test.YtkdfhackpmdgfaaGreatDoorSl
import Derived.Shelf.GgSortFunc.RowK
namespace Go.Proofs.YtkdfhackpmdgfaaGreatDoor
open Go.RowKit Go.Sort
set_option linter.unusedSimpArgs false
set_option linter.unusedVariables false
section
variable {α : Type} [Inhabited α] {enc : α → List Value} {k : Nat}
theorem flatK_flat (hk : ∀ x, (enc x).length = k) (hp : 0 < k) (l : List α) : flatK enc k l.toArray = (flat enc l).toArray := by
  refine ext_get! (by simp [flat_length hk]) fun t ht => ?_
  have ht' : t < l.length * k := by simpa using ht
  rw [get_flatK enc k _ t (by simpa using ht')]
  have hi : t / k < l.length := Nat.div_lt_of_lt_mul (by rw [Nat.mul_comm]; exact ht')
  have hx : l[t / k]? = some l[t / k] := List.getElem?_eq_getElem hi
  have h1 := flat_get hk l (t / k) _ (t % k) hx (Nat.mod_lt _ hp)
  rw [show t / k * k + t % k = t from by rw [Nat.mul_comm]; exact Nat.div_add_mod t k] at h1
  have h2 : l.toArray[t / k]! = l[t / k] := by simp [hi]
  rw [h2]
  have h3 : t % k < (enc l[t / k]).length := by rw [hk]; exact Nat.mod_lt _ hp
  rw [List.getElem?_eq_getElem h3] at h1
  simp only [List.getElem!_toArray, List.getElem!_eq_getElem?_getD, h1, List.getElem?_eq_getElem h3]
theorem holdsK_of_own {W : World} {base n c g : Nat} {e : TypeId} {l : List α} (hk : ∀ x, (enc x).length = k) (hp : 0 < k) (h : W.ownsRow base e k (.slice (some ⟨g, 0, none⟩) n c) n (flat enc l)) (hl : l.length = n) : HoldsK enc k W g 0 l.toArray := by
  unfold HoldsK
  rw [flatK_flat hk hp]
  intro j hj
  have hj' : j < (flat enc l).length := by simpa using hj
  rcases h.2 with ⟨e0, _⟩ | ⟨g', cap', cur, e0, hb, hg, hn, hm, hs, ht⟩
  · cases e0
  · injection e0 with e1 _ e3
    injection e1 with e1
    injection e1 with e1
    subst e1; subst e3
    rw [flat_length hk, hl] at hj'
    have h1 : (cur.toList.take (n * k))[j]? = (flat enc l)[j]? := by rw [ht]
    rw [List.getElem?_take, if_pos hj'] at h1
    refine ⟨?_, by simp [World.frozen?, hg]⟩
    have h2 : (flat enc l)[j]? = some (flat enc l)[j]! := by
      rw [List.getElem!_eq_getElem?_getD, List.getElem?_eq_getElem (by rw [flat_length hk, hl]; exact hj')]; rfl
    simp only [World.cell?, hg, Nat.zero_add, id]
    rw [← Array.getElem?_toList, h1, h2]
    simp
theorem own_putRowK {W : World} {base n c g q : Nat} {e : TypeId} {l l' : List α} (hk : ∀ x, (enc x).length = k) (hp : 0 < k) (h : W.ownsRow base e k (.slice (some ⟨g, 0, none⟩) n c) n (flat enc l)) (hl' : l'.length = n) :
    (putRowK enc k (Sort.ahead W q) g 0 l'.toArray).ownsRow base e k (.slice (some ⟨g, 0, none⟩) n c) n (flat enc l') := by
  unfold putRowK
  rw [flatK_flat hk hp]
  rcases h.2 with ⟨e0, _⟩ | ⟨g', cap', cur, e0, hb, hg, hn, hm, hs, ht⟩
  · cases e0
  · injection e0 with e1 _ e3
    injection e1 with e1
    injection e1 with e1
    subst e1; subst e3
    have hnk : n * k ≤ c * k := Nat.mul_le_mul_right k hn
    refine ⟨by rw [flat_length hk, hl'], .inr ⟨g, c, putCells id 0 (flat enc l').toArray cur, rfl, hb, ?_, hn, hm, by simpa [putCells] using hs, ?_⟩⟩
    · simp [putRow, mapBlock, Sort.ahead, Array.getElem?_modify, hg, onCells]
    · apply List.ext_getElem?
      intro j
      rw [List.getElem?_take, Array.getElem?_toList]
      by_cases hj : j < n * k
      · have hjc : j < cur.size := by omega
        have hjl : j < (flat enc l').length := by rw [flat_length hk, hl']; exact hj
        simp only [if_pos hj, putCells, Array.getElem?_mapIdx, Array.getElem?_eq_getElem hjc, Option.map_some, id]
        rw [if_pos (by simp; omega), List.getElem?_eq_getElem hjl]
        simp [hjl]
      · rw [if_neg hj, List.getElem?_eq_none (by rw [flat_length hk, hl']; omega)]
theorem grownBy_putRowK {W : World} {g q : Nat} (d : Array α) : W.grownBy (putRowK enc k (Sort.ahead W q) g 0 d) (some g) := by
  refine ⟨rfl, rfl, rfl, by simp [putRowK, putRow, mapBlock, Sort.ahead], fun j hj hne => ?_⟩
  have : g ≠ j := fun e => hne (by rw [e])
  simp [putRowK, putRow, mapBlock, Sort.ahead, Array.getElem?_modify, this]
end
end Go.Proofs.YtkdfhackpmdgfaaGreatDoor
