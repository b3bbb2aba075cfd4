/- Definitions, and what effects add to a key, in plain words. -/
import Derived.Test.YthmkfbabacehnaaDoorNumP
import Derived.Test.YthmkfbabacehnaaDoorNmP
import Derived.Test.YthmkfbabacehnaaDoorPlain
namespace Go.Proofs.YthmkfbabacehnaaDoor
set_option linter.unusedSimpArgs false
set_option linter.unusedVariables false
/-- A step: its key, its delta. -/
abbrev St := ByteArray × Int
def goodAt (l : List St) (i : Nat) : Bool := match l[i]? with | some s => !(l.take i).any (fun x => decide (x.1 = s.1)) && nameB s.1 && decide (s.2 ≠ 0) && okV s.2 | none => true
def stepsOK (l : List St) : Bool := (List.range l.length).all (goodAt l)
def defOK (nm : ByteArray) (r dl : Int) (l : List St) : Bool := nameB nm && decide (0 ≤ r) && decide (r ≤ 20) && (decide (0 ≤ dl) && decide (dl ≤ 100000)) && (decide (1 ≤ l.length) && decide (l.length ≤ 8)) && stepsOK l
def defC (nm : ByteArray) (r dl : Int) (l : List St) : Int := if defOK nm r dl l then 0 else 15
theorem good_take {l : List St} {k : Nat} : (List.range (k + 1)).all (goodAt l) = ((List.range k).all (goodAt l) && goodAt l k) := by
  rw [List.range_succ, List.all_append]; simp
theorem good_bad {l : List St} {k : Nat} (hk : k < l.length) (h : goodAt l k = false) : stepsOK l = false := by
  unfold stepsOK
  rw [Bool.eq_false_iff]
  intro ha
  have := List.all_eq_true.1 ha k (List.mem_range.2 hk)
  rw [h] at this; cases this
theorem goodAt_some {l : List St} {k : Nat} {s : St} (h : l[k]? = some s) : goodAt l k = (!(l.take k).any (fun x => decide (x.1 = s.1)) && nameB s.1 && decide (s.2 ≠ 0) && okV s.2) := by unfold goodAt; rw [h]
/-- The errors of a definition and its effects. -/
def okA (n : Nat) (x : Ef) : Bool := okE x && decide (x.2.1 < n)
def chkC (nm : ByteArray) (r dl : Int) (ss : List St) (l : List Ef) : Int :=
  if defOK nm r dl ss then (if 10000 < l.length then 12 else if l.all (okA ss.length) then 0 else 2) else 15
theorem okA_take {n : Nat} {l : List Ef} {k : Nat} {x : Ef} (h : l[k]? = some x) : (l.take (k + 1)).all (okA n) = ((l.take k).all (okA n) && okA n x) := by
  rw [List.take_add_one, h, List.all_append]; simp
theorem okA_bad {n : Nat} {l : List Ef} {k : Nat} {x : Ef} (h : l[k]? = some x) (hb : okA n x = false) : l.all (okA n) = false := by
  rw [Bool.eq_false_iff]
  intro ha
  have := List.all_eq_true.1 ha x (List.mem_of_getElem? h)
  rw [hb] at this; cases this
def addS (p : Int) : Int := if p = 1 then 1 else if p = 2 then -1 else 0
def holdS (p : Int) : Int := if p = 1 then 1 else -1
/-- One effect's part: of the program. -/
def part1 (ss : List St) (key : ByteArray) (sg : Int → Int) (sign : Int) (x : Ef) : List Int :=
  match ss[x.2.1.toNat]? with
  | some s => if decide (s.1 = key) && (decide (sign = 0) || decide (0 < s.2) == decide (0 < sign)) then [sg x.2.2 * s.2] else []
  | none => []
def partsL (ss : List St) (key : ByteArray) (sg : Int → Int) (sign : Int) (l : List Ef) : List Int := l.flatMap (part1 ss key sg sign)
theorem parts_take {ss : List St} {key : ByteArray} {sg : Int → Int} {sign : Int} {l : List Ef} {k : Nat} {x : Ef} (h : l[k]? = some x) : partsL ss key sg sign (l.take (k + 1)) = partsL ss key sg sign (l.take k) ++ part1 ss key sg sign x := by
  unfold partsL
  rw [List.take_add_one, h, List.flatMap_append]; simp
theorem part1_len (ss : List St) (key : ByteArray) (sg : Int → Int) (sign : Int) (x : Ef) : (part1 ss key sg sign x).length ≤ 1 := by
  unfold part1; split
  · split <;> simp
  · simp
theorem parts_len (ss : List St) (key : ByteArray) (sg : Int → Int) (sign : Int) : ∀ l : List Ef, (partsL ss key sg sign l).length ≤ l.length
  | [] => by simp [partsL]
  | x :: l => by
    have h1 := part1_len ss key sg sign x
    have h2 := parts_len ss key sg sign l
    unfold partsL at *
    rw [List.flatMap_cons, List.length_append, List.length_cons]; omega
/-- One effect's part: of the document (Sum; Held above; Held below). -/
def rpart1 (ss : List St) (key : ByteArray) (x : Ef) : List Int :=
  match ss[x.2.1.toNat]? with
  | some s => (if decide (s.1 = key) && decide (x.2.2 = 1) then [s.2] else []) ++ (if decide (s.1 = key) && decide (x.2.2 = 2) then [-s.2] else [])
  | none => []
def rpartsL (ss : List St) (key : ByteArray) (l : List Ef) : List Int := l.flatMap (rpart1 ss key)
def rx (s : St) (x : Ef) : Int := if x.2.2 = 1 then s.2 else -s.2
def rup1 (ss : List St) (key : ByteArray) (x : Ef) : List Int := match ss[x.2.1.toNat]? with | some s => (if decide (s.1 = key) && decide (0 < s.2) then [rx s x] else []) | none => []
def rdn1 (ss : List St) (key : ByteArray) (x : Ef) : List Int := match ss[x.2.1.toNat]? with | some s => (if decide (s.1 = key) && decide (s.2 < 0) then [-rx s x] else []) | none => []
def rupL (ss : List St) (key : ByteArray) (l : List Ef) : List Int := l.flatMap (rup1 ss key)
def rdnL (ss : List St) (key : ByteArray) (l : List Ef) : List Int := l.flatMap (rdn1 ss key)
theorem flat_take {f : Ef → List Int} {l : List Ef} {k : Nat} {x : Ef} (h : l[k]? = some x) : (l.take (k + 1)).flatMap f = (l.take k).flatMap f ++ f x := by
  rw [List.take_add_one, h, List.flatMap_append]; simp
theorem flat_len {f : Ef → List Int} (hf : ∀ x, (f x).length ≤ 1) : ∀ l : List Ef, (l.flatMap f).length ≤ l.length
  | [] => by simp
  | x :: l => by
    have h1 := hf x
    have h2 := flat_len hf l
    rw [List.flatMap_cons, List.length_append, List.length_cons]; omega
/-- What Sum, Held say. -/
def sumP (nm : ByteArray) (r dl : Int) (ss : List St) (l : List Ef) (key : ByteArray) : Int × Int :=
  if chkC nm r dl ss l = 0 then sumC (partsL ss key addS 0 l) else (0, chkC nm r dl ss l)
def heldP (nm : ByteArray) (r dl : Int) (ss : List St) (l : List Ef) (key : ByteArray) : Int × Int × Int :=
  if chkC nm r dl ss l = 0 then (if (sumC (partsL ss key holdS 1 l)).2 = 0 ∧ (sumC (partsL ss key holdS (-1) l)).2 = 0 then ((sumC (partsL ss key holdS 1 l)).1, -(sumC (partsL ss key holdS (-1) l)).1, 0) else (0, 0, 7)) else (0, 0, chkC nm r dl ss l)
def sumR (nm : ByteArray) (r dl : Int) (ss : List St) (l : List Ef) (key : ByteArray) : Int × Int :=
  if chkC nm r dl ss l = 0 then sumC (rpartsL ss key l) else (0, chkC nm r dl ss l)
def heldR (nm : ByteArray) (r dl : Int) (ss : List St) (l : List Ef) (key : ByteArray) : Int × Int × Int :=
  if chkC nm r dl ss l = 0 then (if (sumC (rupL ss key l)).2 = 0 ∧ (sumC (rdnL ss key l)).2 = 0 then ((sumC (rupL ss key l)).1, (sumC (rdnL ss key l)).1, 0) else (0, 0, 7)) else (0, 0, chkC nm r dl ss l)
/-! ### The program and the document agree -/
theorem stepsOK_at {ss : List St} (h : stepsOK ss = true) {i : Nat} {s : St} (hi : ss[i]? = some s) : s.2 ≠ 0 ∧ okV s.2 = true ∧ (∀ k x, k < i → ss[k]? = some x → ¬ x.1 = s.1) ∧ nameB s.1 = true := by
  have hlt : i < ss.length := (List.getElem?_eq_some_iff.1 hi).1
  have h1 := List.all_eq_true.1 h i (List.mem_range.2 hlt)
  rw [goodAt_some hi] at h1
  simp only [Bool.and_eq_true, Bool.not_eq_true', decide_eq_true_eq] at h1
  obtain ⟨⟨⟨a, b⟩, c⟩, d⟩ := h1
  refine ⟨c, d, fun k x hk hx he => ?_, b⟩
  have : (ss.take i).any (fun x => decide (x.1 = s.1)) = true := List.any_eq_true.2 ⟨x, List.mem_of_getElem? (i := k) (by rw [List.getElem?_take, if_pos hk]; exact hx), by simp [he]⟩
  rw [a] at this; cases this
theorem chk_zero {nm : ByteArray} {r dl : Int} {ss : List St} {l : List Ef} (h : chkC nm r dl ss l = 0) : stepsOK ss = true ∧ l.length ≤ 10000 ∧ ∀ x ∈ l, okA ss.length x = true := by
  unfold chkC at h
  split at h
  · rename_i hd
    split at h
    · cases h
    · split at h
      · rename_i h1 h2
        refine ⟨?_, by omega, List.all_eq_true.1 h2⟩
        unfold defOK at hd
        simp only [Bool.and_eq_true] at hd
        exact hd.2
      · cases h
  · cases h
theorem okV_neg {x : Int} : okV (-x) = okV x := by
  rw [Bool.eq_iff_iff, okV_iff, okV_iff]; omega
theorem okV_zero : okV 0 = true := by decide
/-- Lists of the same sums, whose members are allowed alike. -/
theorem sumC_ok {a : List Int} (ha : a.length ≤ 10000) (hA : a.all okV = true) : sumC a = if okV a.sum then (a.sum, 0) else (0, 7) := by
  unfold sumC
  rw [if_neg (show ¬ 10000 < a.length by omega), if_pos hA]
theorem sumC_same {a b : List Int} (ha : a.length ≤ 10000) (hb : b.length ≤ 10000) (hA : a.all okV = true) (hB : b.all okV = true) (hs : a.sum = b.sum) : sumC a = sumC b := by
  rw [sumC_ok ha hA, sumC_ok hb hB, hs]
theorem sumC_neg {a b : List Int} (ha : a.length ≤ 10000) (hb : b.length ≤ 10000) (hA : a.all okV = true) (hB : b.all okV = true) (hs : a.sum = -b.sum) : sumC a = (-(sumC b).1, (sumC b).2) := by
  rw [sumC_ok ha hA, sumC_ok hb hB, hs, okV_neg]
  by_cases h : okV b.sum = true <;> simp [h]
theorem all_flat {f : Ef → List Int} {l : List Ef} (h : ∀ x ∈ l, (f x).all okV = true) : (l.flatMap f).all okV = true := by
  rw [List.all_eq_true]
  intro y hy
  obtain ⟨x, hx, hyx⟩ := List.mem_flatMap.1 hy
  exact List.all_eq_true.1 (h x hx) y hyx
theorem sum_flat {f g : Ef → List Int} : ∀ {l : List Ef}, (∀ x ∈ l, (f x).sum = (g x).sum) → (l.flatMap f).sum = (l.flatMap g).sum
  | [], _ => rfl
  | x :: l, h => by
    rw [List.flatMap_cons, List.flatMap_cons, List.sum_append, List.sum_append, h x (by simp), sum_flat fun y hy => h y (by simp [hy])]
theorem sum_flatn {f g : Ef → List Int} : ∀ {l : List Ef}, (∀ x ∈ l, (f x).sum = -(g x).sum) → (l.flatMap f).sum = -(l.flatMap g).sum
  | [], _ => by simp
  | x :: l, h => by
    rw [List.flatMap_cons, List.flatMap_cons, List.sum_append, List.sum_append, h x (by simp), sum_flatn fun y hy => h y (by simp [hy])]; omega
theorem okA_iff {n : Nat} {x : Ef} : okA n x = true ↔ okE x = true ∧ x.2.1 < n := by simp [okA]
theorem okE_ph {x : Ef} (h : okE x = true) : x.2.2 = 1 ∨ x.2.2 = 2 ∨ x.2.2 = 3 := by
  simp only [okE, Bool.and_eq_true, decide_eq_true_eq] at h
  omega
theorem part_add {ss : List St} (hs : stepsOK ss = true) {key : ByteArray} {x : Ef} (hx : okE x = true) : (part1 ss key addS 0 x).all okV = true ∧ (rpart1 ss key x).all okV = true ∧ (part1 ss key addS 0 x).sum = (rpart1 ss key x).sum ∧ (rpart1 ss key x).length ≤ 1 := by
  unfold part1 rpart1
  cases hh : ss[x.2.1.toNat]? with
  | none => simp
  | some s =>
    obtain ⟨h0, h1, _, _⟩ := stepsOK_at hs hh
    have h2 := (okV_neg (x := s.2)).trans h1
    rcases okE_ph hx with e | e | e <;> by_cases hk : s.1 = key <;> simp [e, hk, addS, h1, h2, okV_zero, Int.neg_mul]
theorem part_up {ss : List St} (hs : stepsOK ss = true) {key : ByteArray} {x : Ef} (hx : okE x = true) : (part1 ss key holdS 1 x).all okV = true ∧ (rup1 ss key x).all okV = true ∧ (part1 ss key holdS 1 x).sum = (rup1 ss key x).sum ∧ (rup1 ss key x).length ≤ 1 := by
  unfold part1 rup1 rx
  cases hh : ss[x.2.1.toNat]? with
  | none => simp
  | some s =>
    obtain ⟨h0, h1, _, _⟩ := stepsOK_at hs hh
    have h2 := (okV_neg (x := s.2)).trans h1
    rcases okE_ph hx with e | e | e <;> by_cases hk : s.1 = key <;> by_cases hp : 0 < s.2 <;> simp [e, hk, hp, holdS, h1, h2, okV_zero, Int.neg_mul]
theorem part_dn {ss : List St} (hs : stepsOK ss = true) {key : ByteArray} {x : Ef} (hx : okE x = true) : (part1 ss key holdS (-1) x).all okV = true ∧ (rdn1 ss key x).all okV = true ∧ (rdn1 ss key x).sum = -(part1 ss key holdS (-1) x).sum ∧ (rdn1 ss key x).length ≤ 1 := by
  unfold part1 rdn1 rx
  cases hh : ss[x.2.1.toNat]? with
  | none => simp
  | some s =>
    obtain ⟨h0, h1, _, _⟩ := stepsOK_at hs hh
    have h2 := (okV_neg (x := s.2)).trans h1
    have hn : s.2 < 0 ∨ 0 < s.2 := by omega
    rcases hn with hn | hn
    · have hp : ¬ 0 < s.2 := by omega
      rcases okE_ph hx with e | e | e <;> by_cases hk : s.1 = key <;> simp [e, hk, hp, hn, holdS, h1, h2, okV_zero, Int.neg_mul]
    · have hp : ¬ s.2 < 0 := by omega
      rcases okE_ph hx with e | e | e <;> by_cases hk : s.1 = key <;> simp [e, hk, hp, hn, holdS, h1, h2, okV_zero, Int.neg_mul]
theorem sum_eq (nm : ByteArray) (r dl : Int) (ss : List St) (l : List Ef) (key : ByteArray) : sumP nm r dl ss l key = sumR nm r dl ss l key := by
  unfold sumP sumR
  by_cases h : chkC nm r dl ss l = 0
  · rw [if_pos h, if_pos h]
    obtain ⟨hs, hl, hx⟩ := chk_zero h
    have hp := fun x hx' => part_add (key := key) hs (okA_iff.1 (hx x hx')).1
    refine sumC_same (Nat.le_trans (parts_len ..) hl) (Nat.le_trans (?_ : (rpartsL ss key l).length ≤ l.length) hl) (all_flat fun x hx' => (hp x hx').1) (all_flat fun x hx' => (hp x hx').2.1) (sum_flat fun x hx' => (hp x hx').2.2.1)
    refine flat_len (fun x => ?_) l
    unfold rpart1
    split
    · split <;> split <;> simp_all
    · simp
  · rw [if_neg h, if_neg h]
theorem rup_len (ss : List St) (key : ByteArray) (l : List Ef) : (rupL ss key l).length ≤ l.length := flat_len (fun x => by unfold rup1; split; (split <;> simp); simp) l
theorem rdn_len (ss : List St) (key : ByteArray) (l : List Ef) : (rdnL ss key l).length ≤ l.length := flat_len (fun x => by unfold rdn1; split; (split <;> simp); simp) l
theorem held_eq (nm : ByteArray) (r dl : Int) (ss : List St) (l : List Ef) (key : ByteArray) : heldP nm r dl ss l key = heldR nm r dl ss l key := by
  unfold heldP heldR
  by_cases h : chkC nm r dl ss l = 0
  · rw [if_pos h, if_pos h]
    obtain ⟨hs, hl, hx⟩ := chk_zero h
    have hp := fun x hx' => part_up (key := key) hs (okA_iff.1 (hx x hx')).1
    have hq := fun x hx' => part_dn (key := key) hs (okA_iff.1 (hx x hx')).1
    have e1 : sumC (partsL ss key holdS 1 l) = sumC (rupL ss key l) := sumC_same (Nat.le_trans (parts_len ..) hl) (Nat.le_trans (rup_len ..) hl) (all_flat fun x hx' => (hp x hx').1) (all_flat fun x hx' => (hp x hx').2.1) (sum_flat fun x hx' => (hp x hx').2.2.1)
    have e2 : sumC (rdnL ss key l) = (-(sumC (partsL ss key holdS (-1) l)).1, (sumC (partsL ss key holdS (-1) l)).2) := sumC_neg (Nat.le_trans (rdn_len ..) hl) (Nat.le_trans (parts_len ..) hl) (all_flat fun x hx' => (hq x hx').2.1) (all_flat fun x hx' => (hq x hx').1) (sum_flatn fun x hx' => (hq x hx').2.2.1)
    rw [e1, e2]
  · rw [if_neg h, if_neg h]
end Go.Proofs.YthmkfbabacehnaaDoor
