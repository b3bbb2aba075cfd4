/- Sums that add up, and what whole sequences make of counters, in plain words. -/
import Derived.Test.YthmkfbabacehnaaDoorDefP
namespace Go.Proofs.YthmkfbabacehnaaDoor
set_option linter.unusedSimpArgs false
set_option linter.unusedVariables false
theorem parts_all {ss : List St} (hs : stepsOK ss = true) {key : ByteArray} {l : List Ef} (hl : ∀ x ∈ l, okE x = true) : (partsL ss key addS 0 l).all okV = true := all_flat fun x hx => (part_add hs (hl x hx)).1
theorem partsL_app (ss : List St) (key : ByteArray) (sg : Int → Int) (sign : Int) (l m : List Ef) : partsL ss key sg sign (l ++ m) = partsL ss key sg sign l ++ partsL ss key sg sign m := by simp [partsL]
theorem chk_app {nm : ByteArray} {r dl : Int} {ss : List St} {l m : List Ef} (hl : l.length ≤ 40) (hm : m.length ≤ 40) : chkC nm r dl ss (l ++ m) = 0 ↔ chkC nm r dl ss l = 0 ∧ chkC nm r dl ss m = 0 := by
  unfold chkC
  by_cases hd : defOK nm r dl ss = true
  · rw [if_pos hd, if_pos hd, if_pos hd, if_neg (show ¬ 10000 < l.length by omega), if_neg (show ¬ 10000 < m.length by omega), if_neg (show ¬ 10000 < (l ++ m).length by rw [List.length_append]; omega), List.all_append]
    cases l.all (okA ss.length) <;> cases m.all (okA ss.length) <;> simp
  · rw [if_neg hd, if_neg hd, if_neg hd]; simp
theorem chk_comm (nm : ByteArray) (r dl : Int) (ss : List St) (l m : List Ef) : chkC nm r dl ss (l ++ m) = chkC nm r dl ss (m ++ l) := by
  unfold chkC
  rw [List.length_append, List.length_append, List.all_append, List.all_append, Nat.add_comm, Bool.and_comm]
theorem sumP_comm (nm : ByteArray) (r dl : Int) (ss : List St) (l m : List Ef) (key : ByteArray) : sumP nm r dl ss (l ++ m) key = sumP nm r dl ss (m ++ l) key := by
  unfold sumP
  rw [chk_comm nm r dl ss l m, partsL_app, partsL_app]
  congr 1
  unfold sumC
  rw [List.length_append, List.length_append, List.all_append, List.all_append, List.sum_append, List.sum_append, Nat.add_comm, Bool.and_comm, Int.add_comm]
theorem sumC_val (a : List Int) : (sumC a).2 = 0 ∨ (sumC a).1 = 0 := by
  unfold sumC
  split
  · exact .inr rfl
  · split
    · split
      · exact .inl rfl
      · exact .inr rfl
    · exact .inr rfl
theorem sumP_val (nm : ByteArray) (r dl : Int) (ss : List St) (l : List Ef) (key : ByteArray) : (sumP nm r dl ss l key).2 = 0 ∨ (sumP nm r dl ss l key).1 = 0 := by
  unfold sumP
  split
  · exact sumC_val _
  · exact .inr rfl
theorem sumP_zero {nm : ByteArray} {r dl : Int} {ss : List St} {l : List Ef} {key : ByteArray} (h : (sumP nm r dl ss l key).2 = 0) : chkC nm r dl ss l = 0 ∧ (sumP nm r dl ss l key).1 = (partsL ss key addS 0 l).sum ∧ okV (partsL ss key addS 0 l).sum = true := by
  unfold sumP at h ⊢
  split at h
  · rename_i hc
    rw [if_pos hc]
    obtain ⟨hs, hl, hx⟩ := chk_zero hc
    have he := sumC_ok (Nat.le_trans (parts_len ss key addS 0 l) hl) (parts_all hs fun x hx' => (okA_iff.1 (hx x hx')).1)
    rw [he] at h ⊢
    by_cases hv : okV (partsL ss key addS 0 l).sum = true
    · rw [if_pos hv]; exact ⟨hc, rfl, hv⟩
    · rw [if_neg hv] at h; cases h
  · rename_i hc; exact absurd h hc
theorem sum_add {nm : ByteArray} {r dl : Int} {ss : List St} {l m : List Ef} {key : ByteArray} (hl : l.length ≤ 40) (hm : m.length ≤ 40) (h1 : (sumP nm r dl ss l key).2 = 0) (h2 : (sumP nm r dl ss m key).2 = 0) :
    okV (sumP nm r dl ss l key).1 = true ∧ okV (sumP nm r dl ss m key).1 = true ∧ sumP nm r dl ss (l ++ m) key = if okV ((sumP nm r dl ss l key).1 + (sumP nm r dl ss m key).1) then ((sumP nm r dl ss l key).1 + (sumP nm r dl ss m key).1, 0) else (0, 7) := by
  obtain ⟨a1, a2, a3⟩ := sumP_zero h1
  obtain ⟨b1, b2, b3⟩ := sumP_zero h2
  have hc := (chk_app (m := m) hl hm).2 ⟨a1, b1⟩
  obtain ⟨hs, hl', hx⟩ := chk_zero hc
  refine ⟨by rw [a2]; exact a3, by rw [b2]; exact b3, ?_⟩
  have he := sumC_ok (Nat.le_trans (parts_len ss key addS 0 (l ++ m)) hl') (parts_all hs fun x hx' => (okA_iff.1 (hx x hx')).1)
  rw [a2, b2]
  unfold sumP
  rw [if_pos hc, he, partsL_app, List.sum_append]
/-! ### Counters -/
def cA (sg : Int → Int) (l : List Ef) (i : Nat) : Int := (l.map fun x => if x.2.1 = (i : Int) then sg x.2.2 else 0).sum
theorem key_iff {ss : List St} (hs : stepsOK ss = true) {i j : Nat} {s t : St} (hi : ss[i]? = some s) (hj : ss[j]? = some t) : t.1 = s.1 ↔ j = i := by
  constructor
  · intro e
    rcases Nat.lt_trichotomy i j with h | h | h
    · exact absurd e.symm ((stepsOK_at hs hj).2.2.1 i s h hi)
    · exact h.symm
    · exact absurd e ((stepsOK_at hs hi).2.2.1 j t h hj)
  · rintro rfl
    rw [hi] at hj; injection hj with hj; rw [hj]
theorem parts_coef {ss : List St} (hs : stepsOK ss = true) {i : Nat} {s : St} (hi : ss[i]? = some s) (sg : Int → Int) (sign : Int) : ∀ l : List Ef, (∀ x ∈ l, okA ss.length x = true) →
    (partsL ss s.1 sg sign l).sum = if (decide (sign = 0) || decide (0 < s.2) == decide (0 < sign)) then s.2 * cA sg l i else 0
  | [], _ => by simp [partsL, cA]
  | x :: l, h => by
    have ih := parts_coef hs hi sg sign l fun y hy => h y (by simp [hy])
    have hx := okA_iff.1 (h x (by simp))
    have hx2 := hx.1
    simp only [okE, Bool.and_eq_true, decide_eq_true_eq] at hx2
    have h1 : (part1 ss s.1 sg sign x).sum = if (decide (sign = 0) || decide (0 < s.2) == decide (0 < sign)) then s.2 * (if x.2.1 = (i : Int) then sg x.2.2 else 0) else 0 := by
      unfold part1
      have hlt : x.2.1.toNat < ss.length := by omega
      rw [List.getElem?_eq_getElem hlt]
      have hk := key_iff hs hi (List.getElem?_eq_getElem hlt)
      by_cases he : x.2.1.toNat = i
      · have e2 : x.2.1 = (i : Int) := by omega
        have hk2 := hk.2 he
        have hse : ss[x.2.1.toNat] = s := by
          have h9 := List.getElem?_eq_getElem hlt
          have h8 : ss[x.2.1.toNat]? = some s := by rw [he]; exact hi
          rw [h8] at h9; injection h9 with h9; exact h9.symm
        simp only [hse, decide_true, Bool.true_and, if_pos e2]
        by_cases hq : (decide (sign = 0) || decide (0 < s.2) == decide (0 < sign)) = true
        · rw [if_pos hq, if_pos hq]; simp [Int.mul_comm]
        · rw [if_neg hq, if_neg hq]; rfl
      · have e2 : ¬ x.2.1 = (i : Int) := by omega
        have hk2 : ¬ (ss[x.2.1.toNat]).1 = s.1 := fun e => he (hk.1 e)
        rw [if_neg e2]
        simp [hk2]
    unfold partsL at ih ⊢
    rw [List.flatMap_cons, List.sum_append, ih, h1]
    unfold cA
    rw [List.map_cons, List.sum_cons]
    split
    · rw [Int.mul_add]
    · rfl
def cntAt (m : Int × List Ef) (i : Nat) : Bool :=
  decide (cA addS m.2 i = if m.1 = 4 then 1 else 0) && decide (cA holdS m.2 i = 0) &&
  (List.range (m.2.length + 1)).all fun u => (decide (cA addS (m.2.take u) i = 0) || decide (cA addS (m.2.take u) i = 1)) && (decide (cA holdS (m.2.take u) i = 0) || decide (cA holdS (m.2.take u) i = 1)) && (!decide (cA addS (m.2.take u) i = 0) || decide (cA holdS (m.2.take u) i = 0))
def cntOK (k : Nat) : Bool := (seqs 1 k).all fun m => ((List.range k).all (cntAt m)) && m.2.all (okA k) && decide (m.2.length ≤ 16)
theorem cnt_dec : ((List.range 8).all fun k => cntOK (k + 1)) = true := by decide +kernel
theorem cnt_at {k : Nat} (hk : 1 ≤ k ∧ k ≤ 8) {m : Int × List Ef} (hm : m ∈ seqs 1 k) : (∀ i, i < k → cntAt m i = true) ∧ (∀ x ∈ m.2, okA k x = true) ∧ m.2.length ≤ 16 := by
  have h := List.all_eq_true.1 cnt_dec (k - 1) (by rw [List.mem_range]; omega)
  rw [show k - 1 + 1 = k from by omega] at h
  have h2 := List.all_eq_true.1 h m hm
  simp only [Bool.and_eq_true, decide_eq_true_eq] at h2
  exact ⟨fun i hi => List.all_eq_true.1 h2.1.1 i (List.mem_range.2 hi), List.all_eq_true.1 h2.1.2, h2.2⟩
theorem held_all {ss : List St} (hs : stepsOK ss = true) {key : ByteArray} {l : List Ef} (hl : ∀ x ∈ l, okE x = true) : (partsL ss key holdS 1 l).all okV = true ∧ (partsL ss key holdS (-1) l).all okV = true := ⟨all_flat fun x hx => (part_up hs (hl x hx)).1, all_flat fun x hx => (part_dn hs (hl x hx)).1⟩
/-- What Sum, Held say of a list whose coefficients at a step are 0 or 1. -/
theorem coef_sum {nm : ByteArray} {r dl : Int} {ss : List St} (hd : defOK nm r dl ss = true) {i : Nat} {s : St} (hi : ss[i]? = some s) {l : List Ef} (hl : ∀ x ∈ l, okA ss.length x = true) (hn : l.length ≤ 16) {a h : Int} (ha : cA addS l i = a) (hh : cA holdS l i = h) (a01 : a = 0 ∨ a = 1) (h01 : h = 0 ∨ h = 1) :
    sumP nm r dl ss l s.1 = (s.2 * a, 0) ∧ heldP nm r dl ss l s.1 = ((if 0 < s.2 then s.2 * h else 0), (if 0 < s.2 then 0 else -(s.2 * h)), 0) := by
  have hc : chkC nm r dl ss l = 0 := by
    unfold chkC
    rw [if_pos hd, if_neg (show ¬ 10000 < l.length by omega), if_pos (List.all_eq_true.2 hl)]
  obtain ⟨hs, _, _⟩ := chk_zero hc
  have hE := fun x hx => (okA_iff.1 (hl x hx)).1
  obtain ⟨h0, hv, _, _⟩ := stepsOK_at hs hi
  have hv' := (okV_iff _).1 hv
  have q0 := parts_coef hs hi addS 0 l hl
  have q1 := parts_coef hs hi holdS 1 l hl
  have q2 := parts_coef hs hi holdS (-1) l hl
  have p0 := fun key sg sign => Nat.le_trans (parts_len ss key sg sign l) (show l.length ≤ 10000 by omega)
  rw [ha] at q0
  rw [hh] at q1 q2
  have e0 := sumC_ok (p0 s.1 addS 0) (parts_all hs hE)
  have e1 := sumC_ok (p0 s.1 holdS 1) (held_all hs hE).1
  have e2 := sumC_ok (p0 s.1 holdS (-1)) (held_all hs hE).2
  simp only [decide_true, Bool.true_or, if_true] at q0
  have v0 : okV (s.2 * a) = true := by rcases a01 with rfl | rfl <;> simp [hv, okV_zero]
  have v1 : okV (s.2 * h) = true := by rcases h01 with rfl | rfl <;> simp [hv, okV_zero]
  unfold sumP heldP
  rw [if_pos hc, if_pos hc, e0, e1, e2, q0, if_pos v0, q1, q2]
  refine ⟨rfl, ?_⟩
  by_cases hp : 0 < s.2
  · simp [hp, v1, okV_zero]
  · simp [hp, v1, okV_zero]
theorem cnt_law {nm : ByteArray} {r dl : Int} {ss : List St} (hd : defOK nm r dl ss = true) {i : Nat} {s : St} (hi : ss[i]? = some s) {m : Int × List Ef} (hm : m ∈ seqs 1 ss.length) (u : Nat) (hu : u ≤ m.2.length) :
    sumP nm r dl ss m.2 s.1 = ((if m.1 = 4 then s.2 else 0), 0) ∧ heldP nm r dl ss m.2 s.1 = (0, 0, 0) ∧
    ∃ b up dn, sumP nm r dl ss (m.2.take u) s.1 = (b, 0) ∧ heldP nm r dl ss (m.2.take u) s.1 = (up, dn, 0) ∧ (b = 0 ∨ b = s.2) ∧ (up = 0 ∨ up = s.2) ∧ (dn = 0 ∨ dn = -s.2) ∧ (up = 0 ∨ dn = 0) ∧ (b = 0 → up = 0 ∧ dn = 0) := by
  have hk : 1 ≤ ss.length ∧ ss.length ≤ 8 := by
    unfold defOK at hd
    simp only [Bool.and_eq_true, decide_eq_true_eq] at hd
    omega
  have hlt : i < ss.length := (List.getElem?_eq_some_iff.1 hi).1
  obtain ⟨h1, h2, h3⟩ := cnt_at hk hm
  have h4 := h1 i hlt
  simp only [cntAt, Bool.and_eq_true, decide_eq_true_eq] at h4
  obtain ⟨⟨c1, c2⟩, c3⟩ := h4
  have h5 := List.all_eq_true.1 c3 u (List.mem_range.2 (by omega))
  simp only [Bool.and_eq_true, Bool.or_eq_true, decide_eq_true_eq, Bool.not_eq_true', decide_eq_false_iff_not] at h5
  obtain ⟨⟨d1, d2⟩, d3⟩ := h5
  have hs : stepsOK ss = true := by
    unfold defOK at hd
    simp only [Bool.and_eq_true] at hd
    exact hd.2
  obtain ⟨h0, hv, _, _⟩ := stepsOK_at hs hi
  obtain ⟨r1, r2⟩ := coef_sum hd hi h2 h3 c1 c2 (by split <;> simp) (.inl rfl)
  obtain ⟨t1, t2⟩ := coef_sum (l := m.2.take u) hd hi (fun x hx => h2 x (List.mem_of_mem_take hx)) (by rw [List.length_take]; omega) rfl rfl d1 d2
  refine ⟨?_, ?_, _, _, _, t1, t2, ?_, ?_, ?_, ?_, ?_⟩
  · rw [r1]; split <;> simp
  · rw [r2]; simp
  · rcases d1 with e | e <;> rw [e] <;> simp
  · rcases d2 with e | e <;> rw [e] <;> simp <;> omega
  · rcases d2 with e | e <;> rw [e] <;> simp <;> omega
  · rcases d2 with e | e <;> rw [e] <;> simp <;> omega
  · intro hb
    have ha : cA addS (m.2.take u) i = 0 := by
      rcases d1 with e | e
      · exact e
      · rw [e] at hb; simp at hb; exact absurd hb h0
    have hz : cA holdS (m.2.take u) i = 0 := by
      rcases d3 with e | e
      · exact absurd ha e
      · exact e
    rw [hz]; simp
end Go.Proofs.YthmkfbabacehnaaDoor
