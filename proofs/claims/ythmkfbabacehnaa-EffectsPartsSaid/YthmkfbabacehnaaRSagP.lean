/- The document's sagas in plain Lean. -/
import Derived.Test.YthmkfbabacehnaaSagP
namespace Go.Proofs.Ythmkfbabacehnaa
open Go.RowKit Go.Shelf
set_option linter.unusedSimpArgs false
set_option linter.unusedVariables false
set_option linter.unusedSectionVars false
set_option maxRecDepth 10000
/-- How the document inserts a saga, where k is the first place whose saga is not below it. -/
def insI (out : List Int) (k : Nat) (x : Int) : List Int := if out[k]? = some x then out else out.take k ++ [x] ++ out.drop k
/-- Where it is to be put. -/
structure PutAt (out : List Int) (k : Nat) (x : Int) : Prop where
  lo : ∀ v ∈ out.take k, v < x
  le : k ≤ out.length
  hi : ∀ v, out[k]? = some v → ¬ v < x
theorem insI_mem {out : List Int} {k : Nat} {x : Int} (v : Int) : v ∈ insI out k x ↔ v = x ∨ v ∈ out := by
  unfold insI
  split
  · rename_i h
    exact ⟨.inr, fun q => q.elim (fun e => by rw [e]; exact List.mem_of_getElem? h) id⟩
  · have : v ∈ out ↔ v ∈ out.take k ∨ v ∈ out.drop k := by
      conv => lhs; rw [← List.take_append_drop k out]
      rw [List.mem_append]
    rw [this]
    simp only [List.mem_append, List.mem_singleton, or_assoc]
    constructor
    · rintro (h | h | h)
      · exact .inr (.inl h)
      · exact .inl h
      · exact .inr (.inr h)
    · rintro (h | h | h)
      · exact .inr (.inl h)
      · exact .inl h
      · exact .inr (.inr h)
theorem insI_inc {out : List Int} {k : Nat} {x : Int} (hp : out.Pairwise (· < ·)) (h : PutAt out k x) : (insI out k x).Pairwise (· < ·) := by
  unfold insI
  split
  · exact hp
  · rename_i hne
    have hd : ∀ v ∈ out.drop k, x < v := by
      intro v hv
      rw [List.mem_iff_getElem?] at hv
      obtain ⟨i, hi⟩ := hv
      rw [List.getElem?_drop] at hi
      obtain ⟨hlt, he⟩ := List.getElem?_eq_some_iff.1 hi
      have hk : out[k]? = some (out[k]'(by omega)) := List.getElem?_eq_getElem _
      have h1 := h.hi _ hk
      have h2 : out[k]'(by omega) ≠ x := fun e => hne (by rw [hk, e])
      have h3 : out[k]'(by omega) ≤ v := by
        rcases Nat.eq_zero_or_pos i with q | q
        · subst q; rw [← he]; exact Int.le_refl _
        · have := List.pairwise_iff_getElem.1 hp k (k + i) (by omega) hlt (by omega)
          rw [he] at this; omega
      omega
    rw [List.append_assoc, List.pairwise_append]
    refine ⟨hp.take, ?_, fun a ha b hb => ?_⟩
    · rw [List.singleton_append, List.pairwise_cons]
      exact ⟨hd, hp.drop⟩
    · rw [List.singleton_append, List.mem_cons] at hb
      have h1 := h.lo a ha
      rcases hb with rfl | hb
      · exact h1
      · have := hd b hb; omega
theorem inc_unique {a b : List Int} (ha : a.Pairwise (· < ·)) (hb : b.Pairwise (· < ·)) (h : ∀ v, v ∈ a ↔ v ∈ b) : a = b := by
  refine List.Perm.eq_of_pairwise (le := (· < ·)) (fun x y _ _ h1 h2 => by omega) ha hb ((List.perm_ext_iff_of_nodup (ha.imp fun h => by omega) (hb.imp fun h => by omega)).2 h)
end Go.Proofs.Ythmkfbabacehnaa
