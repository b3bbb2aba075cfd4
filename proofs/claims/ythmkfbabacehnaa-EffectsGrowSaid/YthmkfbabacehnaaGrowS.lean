/- The rounds of EffectsGrow, in plain words. -/
import Derived.Test.YthmkfbabacehnaaGrowL
namespace Go.Proofs.Ythmkfbabacehnaa
set_option linter.unusedSimpArgs false
set_option linter.unusedVariables false
theorem pref_saga {k : Nat} {p : List Ef} (hp : p ∈ pref k) : ∀ x ∈ p, x.1 = 1 := by
  intro x hx
  have hu : ∀ i q, x ∈ ups 1 i q → x.1 = 1 := fun i q h => by
    obtain ⟨_, _, rfl⟩ := mem_ups h; rfl
  unfold pref at hp
  simp only [List.mem_append, List.mem_map, List.mem_flatMap] at hp
  rcases hp with (⟨i, _, rfl⟩ | ⟨i, _, d, _, rfl⟩) | ⟨d, _, rfl⟩
  · exact hu _ _ hx
  · rcases List.mem_append.1 hx with h | h
    · exact hu _ _ h
    · exact hu _ _ (List.mem_reverse.1 (List.mem_of_mem_take h))
  · rcases List.mem_append.1 hx with h | h
    · exact hu _ _ h
    · exact hu _ _ h
theorem ups_len (s : Int) (k : Nat) (p : Int) : (ups s k p).length = k := by simp [ups]
theorem pref_len {k : Nat} {p : List Ef} (hk : k ≤ 8) (hp : p ∈ pref k) : p.length ≤ 16 := by
  unfold pref at hp
  simp only [List.mem_append, List.mem_map, List.mem_flatMap, List.mem_range] at hp
  rcases hp with (⟨i, hi, rfl⟩ | ⟨i, hi, d, hd, rfl⟩) | ⟨d, hd, rfl⟩
  · rw [ups_len]; omega
  · rw [List.length_append, List.length_take, List.length_reverse, ups_len, ups_len]; omega
  · rw [List.length_append, ups_len, ups_len]; omega
theorem pref_nil (k : Nat) : [] ∈ pref k := by
  unfold pref
  simp only [List.mem_append, List.mem_map, List.mem_range]
  exact .inl (.inl ⟨0, by omega, rfl⟩)
theorem grow_step {k : Nat} (hk : 1 ≤ k ∧ k ≤ 8) {id : Int} (hid : 1 ≤ id ∧ id ≤ 9999) {p : List Ef} (hp : p ∈ pref k) :
    (nextP k (p.map (resaga id))).2 = 0 ∧ legalP k (p.map (resaga id)) = (true, (p.length : Int), 0) ∧ (∃ a b, wholeP k (p.map (resaga id)) = (a, b, 0) ∧ ((nextP k (p.map (resaga id))).1 = [] → b = true)) ∧ (nextP k (p.map (resaga id))).1.length ≤ 2 ∧
      ∀ y ∈ (nextP k (p.map (resaga id))).1, ∃ q ∈ pref k, q.map (resaga id) = p.map (resaga id) ++ [resaga id y] := by
  have h1 := pref_saga hp
  have h := grow_at hk hp
  simp only [growAt, Bool.and_eq_true, decide_eq_true_eq, Bool.or_eq_true, Bool.not_eq_true', and_assoc] at h
  obtain ⟨a1, a2, a3, a4, a5, a6, a7⟩ := h
  have hN := next1_lift (k := k) hid h1
  rw [next_eq, legal_eq, whole_eq, legalR_lift hid h1, wholeR_lift hid h1, next2_lift hid h1]
  have hlen : (nextR k (p.map (resaga id))).1.length = (nextR k p).1.length := by
    have := congrArg List.length hN
    simpa using this
  refine ⟨a3, a1, ⟨_, _, by rw [← a2], fun he => ?_⟩, by rw [hlen]; exact a4, fun y hy => ?_⟩
  · rcases a5 with a5 | a5
    · exfalso
      rw [he] at hlen
      have : (nextR k p).1 = [] := List.eq_nil_of_length_eq_zero hlen.symm
      rw [this] at a5
      cases a5
    · exact a5
  · have hm : y.2 ∈ (nextR k p).1.map (·.2) := by rw [← hN]; exact List.mem_map.2 ⟨y, hy, rfl⟩
    obtain ⟨z, hz, he⟩ := List.mem_map.1 hm
    obtain ⟨q, hq, hqe⟩ := List.any_eq_true.1 (List.all_eq_true.1 a6 z hz)
    rw [decide_eq_true_eq] at hqe
    refine ⟨q, hq, ?_⟩
    rw [hqe, List.map_append]
    simp only [List.map_cons, List.map_nil, resaga, he]
theorem mem_grid1 {k : Nat} {st : Nat} {ph : Int} (hs : st < k) (hp : 1 ≤ ph ∧ ph ≤ 3) : ((1 : Int), (st : Int), ph) ∈ grid 1 k := by
  rw [mem_grid]
  refine ⟨st, hs, ?_⟩
  rcases (show ph = 1 ∨ ph = 2 ∨ ph = 3 from by omega) with rfl | rfl | rfl <;> simp
def mayL (id : Int) (k : Nat) (p : List Ef) (x : Ef) : Bool := (nextP k (p.map (resaga id))).1.any fun y => decide (resaga id y = x)
theorem add_step {k : Nat} (hk : 1 ≤ k ∧ k ≤ 8) {id : Int} (hid : 1 ≤ id ∧ id ≤ 9999) {p : List Ef} (hp : p ∈ pref k) {st : Nat} {ph : Int} (hs : st < k) (hph : 1 ≤ ph ∧ ph ≤ 3) :
    (∃ b, legalP k (p.map (resaga id) ++ [(id, (st : Int), ph)]) = (mayL id k p (id, (st : Int), ph), b, 0) ∧ (mayL id k p (id, (st : Int), ph) = true ∨ b = (p.length : Int))) ∧
    (nextP k (p.map (resaga id) ++ [(id, (st : Int), ph)])).2 = (if mayL id k p (id, (st : Int), ph) then 0 else 9) ∧
    (∃ b, legalP k (p.map (resaga id) ++ [(id, (st : Int), ph)] ++ [(id, (st : Int), ph)]) = (false, b, 0) ∧ (mayL id k p (id, (st : Int), ph) = true ∨ b = (p.length : Int))) := by
  have h1 := pref_saga hp
  have h := grow_at hk hp
  simp only [growAt, Bool.and_eq_true, and_assoc] at h
  obtain ⟨_, _, _, _, _, _, a7⟩ := h
  have ha := List.all_eq_true.1 a7 (1, (st : Int), ph) (mem_grid1 hs hph)
  have hmay : mayL id k p (id, (st : Int), ph) = mayB k p (1, (st : Int), ph) := by
    unfold mayL mayB
    rw [next_eq]
    have e1 : ∀ L : List Ef, (L.any fun y => decide (resaga id y = (id, (st : Int), ph))) = (L.map (·.2)).any fun z => decide (z = ((st : Int), ph)) := fun L => by
      rw [List.any_map]
      congr 1
      funext y
      rw [Bool.eq_iff_iff]
      simp [resaga]
    have e2 : ∀ L : List Ef, (L.any fun y => decide (y.2 = ((1 : Int), (st : Int), ph).2)) = (L.map (·.2)).any fun z => decide (z = ((st : Int), ph)) := fun L => by
      rw [List.any_map]; rfl
    rw [e1, e2, next1_lift hid h1]
  rw [hmay]
  have em : p.map (resaga id) ++ [(id, (st : Int), ph)] = (p ++ [(1, (st : Int), ph)]).map (resaga id) := by simp [resaga]
  have em2 : p.map (resaga id) ++ [(id, (st : Int), ph)] ++ [(id, (st : Int), ph)] = (p ++ [(1, (st : Int), ph)] ++ [(1, (st : Int), ph)]).map (resaga id) := by simp [resaga]
  have s1 : ∀ x ∈ p ++ [(1, (st : Int), ph)], x.1 = 1 := fun x hx => by
    rcases List.mem_append.1 hx with h | h
    · exact h1 x h
    · simp at h; rw [h]
  have s2 : ∀ x ∈ p ++ [(1, (st : Int), ph)] ++ [(1, (st : Int), ph)], x.1 = 1 := fun x hx => by
    rcases List.mem_append.1 hx with h | h
    · exact s1 x h
    · simp at h; rw [h]
  rw [em2, em, legal_eq, legal_eq, next_eq, legalR_lift hid s1, legalR_lift hid s2, next2_lift hid s1]
  simp only [addAt, Bool.and_eq_true, Bool.or_eq_true, decide_eq_true_eq, beq_iff_eq, and_assoc] at ha
  obtain ⟨a1, a2, a3, b1, b2, b3⟩ := ha
  have ok : okL (k : Int) (p ++ [(1, (st : Int), ph)]) = true := by
    by_cases h : okL (k : Int) (p ++ [(1, (st : Int), ph)]) = true
    · exact h
    · unfold legalR at a2
      rw [if_neg h] at a2
      cases a2
  refine ⟨⟨_, Prod.ext a1 (Prod.ext rfl a2), a3⟩, ?_, ⟨_, Prod.ext b1 (Prod.ext rfl b2), b3⟩⟩
  rw [next_code, if_pos ok, a1]
end Go.Proofs.Ythmkfbabacehnaa
