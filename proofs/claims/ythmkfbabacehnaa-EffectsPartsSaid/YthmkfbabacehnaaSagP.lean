/- The sagas of effects in plain Lean: they are in order, they are those of the effects, and the effects of the sagas are together the list. -/
import Derived.Test.YthmkfbabacehnaaSagas
namespace Go.Proofs.Ythmkfbabacehnaa
set_option linter.unusedSimpArgs false
set_option linter.unusedVariables false
theorem arr_get (zs : List Int) {i : Nat} (hi : i < zs.length) : zs.toArray[i]! = zs[i] := by simp [hi]
theorem compactUpTo_spec (zs : List Int) (hs : zs.Pairwise (· ≤ ·)) : ∀ m, m ≤ zs.length → (∀ v, v ∈ Lib.compactUpTo zs.toArray m ↔ v ∈ zs.take m) ∧ (Lib.compactUpTo zs.toArray m).Pairwise (· < ·)
  | 0, _ => by simp [Lib.compactUpTo]
  | m + 1, hm => by
    obtain ⟨h1, h2⟩ := compactUpTo_spec zs hs m (by omega)
    have hlt : m < zs.length := by omega
    have hp := List.pairwise_iff_getElem.1 hs
    have htake : zs.take (m + 1) = zs.take m ++ [zs[m]] := by rw [List.take_add_one, List.getElem?_eq_getElem hlt]; rfl
    rw [Lib.compactUpTo_succ, htake, arr_get zs hlt]
    cases hk : Lib.keeps zs.toArray m with
    | true =>
      rw [if_pos rfl]
      refine ⟨fun v => by rw [List.mem_append, List.mem_append, h1], ?_⟩
      rw [List.pairwise_append]
      refine ⟨h2, by simp, fun a ha b hb => ?_⟩
      rw [List.mem_singleton] at hb
      subst hb
      rw [h1, List.mem_iff_getElem?] at ha
      obtain ⟨i, hi⟩ := ha
      rw [List.getElem?_take] at hi
      split at hi
      · rename_i him
        rw [List.getElem?_eq_getElem (by omega)] at hi
        injection hi with hi
        have e1 := hp i m (by omega) hlt him
        simp only [Lib.keeps, decide_eq_true_eq] at hk
        rcases hk with hk | hk
        · omega
        · rw [arr_get zs hlt, arr_get zs (i := m - 1) (by omega)] at hk
          have e2 := hp (m - 1) m (by omega) hlt (by omega)
          have e3 : zs[i] ≤ zs[m - 1] := by
            rcases Nat.lt_or_ge i (m - 1) with q | q
            · exact hp i (m - 1) (by omega) (by omega) q
            · have : i = m - 1 := by omega
              subst this; omega
          omega
      · cases hi
    | false =>
      rw [if_neg (by decide), List.append_nil]
      refine ⟨fun v => ?_, h2⟩
      rw [h1, List.mem_append, List.mem_singleton]
      refine ⟨.inl, fun h => h.elim id fun e => ?_⟩
      have hk' : ¬ (m = 0 ∨ zs.toArray[m]! ≠ zs.toArray[m - 1]!) := by simpa [Lib.keeps] using hk
      have hm0 : m ≠ 0 := fun e => hk' (.inl e)
      have he : zs.toArray[m]! = zs.toArray[m - 1]! := Classical.byContradiction fun e => hk' (.inr e)
      rw [arr_get zs hlt, arr_get zs (i := m - 1) (by omega)] at he
      rw [e, he, List.mem_iff_getElem?]
      exact ⟨m - 1, by rw [List.getElem?_take, if_pos (by omega), List.getElem?_eq_getElem (by omega)]⟩
theorem sagasP_spec (l : List Ef) : (∀ v, v ∈ sagasP l ↔ ∃ x ∈ l, x.1 = v) ∧ (sagasP l).Pairwise (· < ·) := by
  have hs : (sortI (l.map (·.1))).Pairwise (· ≤ ·) := by
    have := List.pairwise_mergeSort (le := fun x y : Int => decide (x ≤ y)) (fun a b c h1 h2 => by simp at *; omega) (fun a b => by simp; omega) (l.map (·.1))
    exact this.imp fun {a b} h => by simpa using h
  obtain ⟨h1, h2⟩ := compactUpTo_spec _ hs _ (Nat.le_refl _)
  refine ⟨fun v => ?_, h2⟩
  have : sagasP l = Lib.compactUpTo (sortI (l.map (·.1))).toArray (sortI (l.map (·.1))).length := rfl
  rw [this, h1, List.take_length, sortI, List.mem_mergeSort, List.mem_map]
theorem ofS_cons (v : Int) (x : Ef) (l : List Ef) : (ofS v (x :: l)).length = (if x.1 = v then 1 else 0) + (ofS v l).length := by
  by_cases h : x.1 = v
  · simp [ofS, h]; omega
  · simp [ofS, h]
theorem sum_one {a : Int} : ∀ {ids : List Int}, ids.Pairwise (· < ·) → a ∈ ids → (ids.map fun v => if a = v then 1 else 0).sum = 1
  | [], _, h => by simp at h
  | v :: ids, hp, h => by
    rw [List.pairwise_cons] at hp
    simp only [List.map_cons, List.sum_cons]
    by_cases e : a = v
    · subst e
      have : ∀ ids : List Int, (∀ u ∈ ids, a < u) → (ids.map fun v => if a = v then 1 else 0).sum = 0 := by
        intro ids
        induction ids with
        | nil => intro _; rfl
        | cons u ids ih =>
          intro hu
          have h0 := hu u (by simp)
          simp only [List.map_cons, List.sum_cons]
          rw [if_neg (by omega), ih fun w hw => hu w (by simp [hw])]
      rw [if_pos rfl, this ids hp.1]
    · rw [if_neg e, sum_one hp.2 (by simpa [e] using h)]
theorem sum_all {ids : List Int} (hp : ids.Pairwise (· < ·)) : ∀ (l : List Ef), (∀ x ∈ l, x.1 ∈ ids) → (ids.map fun v => (ofS v l).length).sum = l.length
  | [], _ => by
    have : ∀ ids : List Int, (ids.map fun v => (ofS v []).length).sum = 0 := by
      intro ids
      induction ids with
      | nil => rfl
      | cons u ids ih => simp only [List.map_cons, List.sum_cons, ih]; rfl
    exact this ids
  | x :: l, h => by
    have h1 := sum_all hp l fun y hy => h y (by simp [hy])
    have h2 := sum_one hp (h x (by simp))
    have : ∀ ids : List Int, (ids.map fun v => (ofS v (x :: l)).length).sum = (ids.map fun v => if x.1 = v then 1 else 0).sum + (ids.map fun v => (ofS v l).length).sum := by
      intro ids
      induction ids with
      | nil => rfl
      | cons u ids ih => rw [List.map_cons, List.map_cons, List.map_cons, List.sum_cons, List.sum_cons, List.sum_cons, ih, ofS_cons]; omega
    rw [this, h1, h2, List.length_cons]; omega
theorem ofS_at {v : Int} {l : List Ef} {k : Nat} {x : Ef} (hx : l[k]? = some x) (h : x.1 = v) : (ofS v l)[(ofS v (l.take k)).length]? = some x := by
  have hl := (List.getElem?_eq_some_iff.1 hx).1
  have he := (List.getElem?_eq_some_iff.1 hx).2
  have hs : ofS v l = ofS v (l.take k) ++ x :: ofS v (l.drop (k + 1)) := by
    conv => lhs; rw [← List.take_append_drop k l, List.drop_eq_getElem_cons hl, he]
    simp [ofS, List.filter_append, List.filter_cons, h]
  rw [hs, List.getElem?_append_right (Nat.le_refl _), Nat.sub_self]; rfl
theorem ofS_pos {v : Int} {l : List Ef} : 0 < (ofS v l).length ↔ ∃ x ∈ l, x.1 = v := by
  rw [List.length_pos_iff_exists_mem]
  simp [ofS, List.mem_filter]
end Go.Proofs.Ythmkfbabacehnaa
