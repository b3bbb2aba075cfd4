/- What the calls of a table say, in plain Lean: the program's and the document's. No program in sight. -/
import Derived.Test.YtkdfhackpmdgfaaGreatDoorDedP
import Derived.Test.YtkdfhackpmdgfaaGreatDoorNmP
namespace Go.Proofs.YtkdfhackpmdgfaaGreatDoor
set_option linter.unusedSimpArgs false
set_option linter.unusedVariables false
/-- The order of texts. -/
def lessB (a b : ByteArray) : Bool := Op.bytesLess a.toList b.toList
theorem bl_eq : ∀ x y : List UInt8, Op.bytesLess x y = decide (x < y)
  | [], [] => by simp [Op.bytesLess]
  | _ :: _, [] => by simp [Op.bytesLess]
  | [], _ :: _ => by simp [Op.bytesLess]
  | a :: x, b :: y => by
    rw [Op.bytesLess, bl_eq x y, Bool.eq_iff_iff]
    simp [List.cons_lt_cons_iff]
theorem tl_inj {a b : ByteArray} (h : a.toList = b.toList) : a = b := by
  rw [ByteArray.toList_eq, ByteArray.toList_eq] at h
  cases a; cases b
  simp only at h
  congr 1
  exact Array.toList_inj.1 h
theorem less_iff (a b : ByteArray) : lessB a b = true ↔ a.toList < b.toList := by unfold lessB; rw [bl_eq, decide_eq_true_eq]
theorem less_irr (a : ByteArray) : lessB a a = false := by
  rw [Bool.eq_false_iff, Ne, less_iff]; exact List.lt_irrefl _
theorem less_not {a b : ByteArray} : lessB a b = (!(lessB b a || decide (a = b))) := by
  rw [Bool.eq_iff_iff, Bool.not_eq_true', Bool.or_eq_false_iff, decide_eq_false_iff_not, less_iff, Bool.eq_false_iff, Ne, less_iff]
  constructor
  · intro h
    exact ⟨fun q => List.lt_irrefl _ (List.lt_trans h q), fun e => by rw [e] at h; exact List.lt_irrefl _ h⟩
  · rintro ⟨h1, h2⟩
    rcases Nat.lt_trichotomy 0 0 with h | h | h
    · exact absurd h (Nat.lt_irrefl 0)
    · by_cases h3 : a.toList < b.toList
      · exact h3
      · have h4 : b.toList ≤ a.toList := by simpa using h3
        have h5 : a.toList ≤ b.toList := by simpa using h1
        exact absurd (tl_inj (List.le_antisymm h5 h4)) h2
    · exact absurd h (Nat.lt_irrefl 0)
theorem less_trans {a b c : ByteArray} (h1 : lessB a b = true) (h2 : lessB b c = true) : lessB a c = true := by
  rw [less_iff] at *; exact List.lt_trans h1 h2
/-- A range. -/
abbrev Rg := ByteArray × ByteArray
def noText : ByteArray := ⟨#[]⟩
def endB (s : ByteArray) : Bool := decide (s = noText) || nameB s
/-- Whether a range is valid. -/
def okG (g : Rg) : Bool := endB g.1 && endB g.2 && (decide (g.2 = noText) || lessB g.1 g.2)
/-- Whether a key is in a valid range. -/
def inG (g : Rg) (k : ByteArray) : Bool := !(lessB k g.1) && (decide (g.2 = noText) || lessB k g.2)
def okR (r : Rp) : Bool := decide (0 ≤ r.1) && decide (r.1 ≤ 18) && (decide (-1152921504606846976 ≤ r.2.1) && decide (r.2.1 ≤ 1152921504606846976)) && decide (r.2.2.size ≤ 65536)
def okP (x : En) : Bool := okE x.e && nameB x.k && okR x.r
/-- Put: its answer; what is remembered behind it: of the program, of the document. -/
def putC (size : Int) (P : List En) (x : En) : Int :=
  if okP x then (if (look P x.e).isSome then 6 else if size ≤ (P.length : Int) then 4 else 0) else 2
def putL (size : Int) (P : List En) (x : En) : List En := if putC size P x = 0 then ins x P else P
def putR (size : Int) (R : List En) (x : En) : List En := if putC size R x = 0 then R ++ [x] else R
def takeC (g : Rg) : Int := if okG g then 0 else 2
def takeL (g : Rg) (P : List En) : List En := if okG g then P.filter (fun x => !inG g x.k) else P
def takeO (g : Rg) (P : List En) : List Ef := if okG g then (P.filter fun x => inG g x.k).map En.e else []
def takeRO (g : Rg) (P : List En) : List Ef := if okG g then srtE ((P.filter fun x => inG g x.k).map En.e) else []
def getR (P : List En) (e : Ef) : Rp := match look P e with | some x => x.r | none => (0, 0, noText)
def getK (P : List En) (e : Ef) : ByteArray := match look P e with | some x => x.k | none => noText
/-- A table of the program and one of the document remember the same. -/
structure Same (P R : List En) : Prop where
  eq : P = srt R
  dist : Dist R
  ok : ∀ x ∈ R, okP x = true
theorem Same.nil : Same [] [] := ⟨rfl, List.Pairwise.nil, by simp⟩
theorem Same.ord {P R : List En} (h : Same P R) : Ord P := by rw [h.eq]; exact ord_srt h.dist
theorem Same.len {P R : List En} (h : Same P R) : P.length = R.length := by rw [h.eq, srt_len]
theorem Same.look {P R : List En} (h : Same P R) (e : Ef) : look P e = Go.Proofs.YtkdfhackpmdgfaaGreatDoor.look R e := by rw [h.eq, look_srt h.dist]
theorem Same.okP' {P R : List En} (h : Same P R) : ∀ x ∈ P, okP x = true := fun x hx => h.ok x (mem_srt.1 (by rw [← h.eq]; exact hx))
theorem look_none {R : List En} {e : Ef} (h : (look R e).isSome = false) : ∀ y ∈ R, y.e ≠ e := by
  intro y hy
  cases hl : look R e with
  | some x => rw [hl] at h; cases h
  | none =>
    unfold look at hl
    rw [List.find?_eq_none] at hl
    simpa using hl y hy
theorem putC_zero {size : Int} {P : List En} {x : En} (h : putC size P x = 0) : okP x = true ∧ (look P x.e).isSome = false ∧ (P.length : Int) < size := by
  unfold putC at h
  split at h
  · split at h
    · cases h
    · split at h
      · cases h
      · rename_i h1 h2 h3
        exact ⟨h1, by simpa using h2, by omega⟩
  · cases h
theorem Same.putC {P R : List En} (h : Same P R) (size : Int) (x : En) : putC size P x = Go.Proofs.YtkdfhackpmdgfaaGreatDoor.putC size R x := by
  unfold Go.Proofs.YtkdfhackpmdgfaaGreatDoor.putC; rw [h.look, h.len]
theorem Same.put {P R : List En} (h : Same P R) (size : Int) (x : En) : Same (putL size P x) (putR size R x) := by
  unfold putL putR
  rw [h.putC]
  by_cases hc : Go.Proofs.YtkdfhackpmdgfaaGreatDoor.putC size R x = 0
  · obtain ⟨h1, h2, _⟩ := putC_zero hc
    rw [if_pos hc, if_pos hc]
    refine ⟨by rw [srt_snoc, h.eq], dist_snoc h.dist (look_none h2), fun y hy => ?_⟩
    rcases List.mem_append.1 hy with hy | hy
    · exact h.ok y hy
    · rw [List.mem_singleton] at hy; subst hy; exact h1
  · rw [if_neg hc, if_neg hc]; exact h
theorem Same.take {P R : List En} (h : Same P R) (g : Rg) : Same (takeL g P) (takeL g R) ∧ takeO g P = takeRO g R := by
  unfold takeL takeO takeRO
  by_cases hg : okG g = true
  · rw [if_pos hg, if_pos hg, if_pos hg, if_pos hg]
    refine ⟨⟨by rw [h.eq, filter_srt h.dist], dist_filter h.dist _, fun x hx => h.ok x (List.mem_filter.1 hx).1⟩, ?_⟩
    rw [h.eq, filter_srt h.dist, map_srt]
  · rw [if_neg hg, if_neg hg, if_neg hg, if_neg hg]
    exact ⟨h, rfl⟩
theorem Same.all {P R : List En} (h : Same P R) : P.map En.e = srtE (R.map En.e) := by rw [h.eq, map_srt]
theorem Same.get {P R : List En} (h : Same P R) (e : Ef) : getR P e = getR R e ∧ getK P e = getK R e := by
  unfold getR getK; rw [h.look]; exact ⟨rfl, rfl⟩
theorem putL_len (size : Int) (P : List En) (x : En) : (putL size P x).length ≤ P.length + 1 := by
  unfold putL; split
  · rw [ins_len]; omega
  · omega
theorem takeL_len (g : Rg) (P : List En) : (takeL g P).length ≤ P.length := by
  unfold takeL; split
  · exact List.length_filter_le _ _
  · exact Nat.le_refl _
theorem pos_iff {P : List En} (ho : Ord P) {e : Ef} {i : Nat} {x : En} (h : P[i]? = some x) : i < pos P e ↔ efLt x.e e = true := by
  have hi : i < P.length := (List.getElem?_eq_some_iff.1 h).1
  constructor
  · intro hp
    have h1 : (P.take (pos P e))[i]? = some x := by rw [List.getElem?_take, if_pos hp]; exact h
    rw [take_pos] at h1
    exact tw_all P x (List.mem_of_getElem? h1)
  · intro hl
    rcases Nat.lt_or_ge i (pos P e) with hp | hp
    · exact hp
    · have h1 : (P.drop (pos P e))[i - pos P e]? = some x := by rw [List.getElem?_drop, show pos P e + (i - pos P e) = i from by omega]; exact h
      rw [drop_pos] at h1
      have := dw_all P ho x (List.mem_of_getElem? h1)
      rw [hl] at this; cases this
/-- Whether an effect is there. -/
def hasB (P : List En) (e : Ef) : Bool := (look P e).isSome
theorem has_pos {P : List En} (ho : Ord P) {e : Ef} {x : En} (h : P[pos P e]? = some x) : hasB P e = decide (x.e = e) := by
  unfold hasB
  rw [look_pos ho, h]
  by_cases q : x.e = e
  · simp [q]
  · simp [q]
theorem has_end {P : List En} (ho : Ord P) {e : Ef} (h : pos P e = P.length) : hasB P e = false := by
  unfold hasB
  rw [look_pos ho, List.getElem?_eq_none (by omega)]
  rfl
end Go.Proofs.YtkdfhackpmdgfaaGreatDoor
