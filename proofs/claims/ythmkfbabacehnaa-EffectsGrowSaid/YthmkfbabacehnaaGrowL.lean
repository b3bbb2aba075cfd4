/- What the document says of a list does not hang on its saga. -/
import Derived.Test.YthmkfbabacehnaaGrowP
namespace Go.Proofs.Ythmkfbabacehnaa
set_option linter.unusedSimpArgs false
set_option linter.unusedVariables false
theorem com_lift (s : Int) : ∀ (l m : List Ef), com (l.map (resaga s)) m = com l m
  | [], m => by cases m <;> rfl
  | x :: l, [] => rfl
  | x :: l, y :: m => by
    simp only [List.map_cons, com, com_lift s l m]
    rfl
theorem head_lift {s : Int} {l : List Ef} (hl : l ≠ []) : head (l.map (resaga s)) = s := by
  cases l with
  | nil => exact absurd rfl hl
  | cons x l => rfl
theorem okL_lift {n s : Int} {l : List Ef} (hs : 1 ≤ s ∧ s ≤ 9999) (hl : ∀ x ∈ l, x.1 = 1) : okL n (l.map (resaga s)) = okL n l := by
  by_cases h0 : l = []
  · subst h0; rfl
  · have hh : head l = 1 := by
      cases l with
      | nil => exact absurd rfl h0
      | cons x l => exact hl x (by simp)
    rw [Bool.eq_iff_iff, okL_iff, okL_iff, head_lift h0, hh]
    refine and_congr Iff.rfl ⟨fun h x hx => ?_, fun h x hx => ?_⟩
    · have := h (resaga s x) (List.mem_map.2 ⟨x, hx, rfl⟩)
      rw [okX_iff, okE_iff] at this ⊢
      have h1 := hl x hx
      simp only [resaga] at this
      omega
    · obtain ⟨y, hy, rfl⟩ := List.mem_map.1 hx
      have h2 := h y hy
      rw [okX_iff, okE_iff] at h2
      rw [okX_iff, okE_iff]
      exact ⟨⟨hs.1, hs.2, h2.1.2.2⟩, h2.2.1, rfl⟩
theorem best_lift (s : Int) (l : List Ef) (ss : List (Int × List Ef)) : best (com (l.map (resaga s))) ss = best (com l) ss := by
  have : com (l.map (resaga s)) = com l := funext fun m => com_lift s l m
  rw [this]
theorem legalR_lift {n s : Int} {l : List Ef} (hs : 1 ≤ s ∧ s ≤ 9999) (hl : ∀ x ∈ l, x.1 = 1) : legalR n (l.map (resaga s)) = legalR n l := by
  unfold legalR
  rw [okL_lift hs hl, best_lift, List.length_map]
theorem wholeR_lift {n s : Int} {l : List Ef} (hs : 1 ≤ s ∧ s ≤ 9999) (hl : ∀ x ∈ l, x.1 = 1) : wholeR n (l.map (resaga s)) = wholeR n l := by
  unfold wholeR
  rw [okL_lift hs hl]
  simp only [com_lift, List.length_map]
theorem next2_lift {n s : Int} {l : List Ef} (hs : 1 ≤ s ∧ s ≤ 9999) (hl : ∀ x ∈ l, x.1 = 1) : (nextR n (l.map (resaga s))).2 = (nextR n l).2 := by
  rw [next_code, next_code, okL_lift hs hl, legalR_lift hs hl]
theorem may_lift (k : Nat) (s : Int) (l : List Ef) (x y : Ef) (h : x.2 = y.2) : may k (l.map (resaga s)) x = may k l y := by
  unfold may
  simp only [com_lift, List.length_map, h]
theorem grid_lift (s : Int) (k : Nat) : grid s k = (grid 1 k).map (resaga s) := by
  unfold grid
  rw [List.map_flatMap]
  rfl
theorem next1_lift {k : Nat} {s : Int} {l : List Ef} (hs : 1 ≤ s ∧ s ≤ 9999) (hl : ∀ x ∈ l, x.1 = 1) : (nextR k (l.map (resaga s))).1.map (·.2) = (nextR k l).1.map (·.2) := by
  unfold nextR
  rw [okL_lift hs hl, best_lift, List.length_map]
  split
  · split
    · simp only
      rw [grid_lift (head (l.map (resaga s))), grid_lift (head l), List.filter_map, List.filter_map, List.map_map, List.map_map]
      have h1 : (may (k : Int).toNat (l.map (resaga s)) ∘ resaga (head (l.map (resaga s)))) = (may (k : Int).toNat l ∘ resaga (head l)) := funext fun x => may_lift _ s l _ _ rfl
      rw [h1]
      rfl
    · rfl
  · rfl
end Go.Proofs.Ythmkfbabacehnaa
