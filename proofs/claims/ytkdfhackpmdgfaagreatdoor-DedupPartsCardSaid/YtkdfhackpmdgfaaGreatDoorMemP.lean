/- Memos in plain Lean: what they are, what a table filled with them remembers. No program in sight. -/
import Derived.Test.YtkdfhackpmdgfaaGreatDoorLongP
import Derived.Lib.Repeat
namespace Go.Proofs.YtkdfhackpmdgfaaGreatDoor
set_option linter.unusedSimpArgs false
set_option linter.unusedVariables false
/-- A memo: saga, place, key, number, error. -/
abbrev Mo := Int × Int × Int × Int × Int
structure okM (m : Mo) : Prop where
  a : 0 ≤ m.1 ∧ m.1 ≤ 255
  b : 0 ≤ m.2.1 ∧ m.2.1 ≤ 255
  c : 0 ≤ m.2.2.1 ∧ m.2.2.1 ≤ 255
  d : -2147483648 ≤ m.2.2.2.1 ∧ m.2.2.2.1 ≤ 2147483647
  e : 0 ≤ m.2.2.2.2 ∧ m.2.2.2.2 ≤ 255
def moE (m : Mo) : Ef := (1 + m.1 % 5, m.2.1 % 8, 1 + m.2.1 / 8 % 3)
def letB (k : Nat) : ByteArray := ⟨#[UInt8.ofNat (97 + k)]⟩
def moK (m : Mo) : ByteArray := letB (m.2.2.1 % 26).toNat
def moT (m : Mo) : ByteArray := ⟨(Lib.repeatL [120] (m.2.2.2.2 % 4).toNat).toArray⟩
def moR (m : Mo) : Rp := (m.2.2.2.2 % 19, m.2.2.2.1, moT m)
def enM (m : Mo) : En := ⟨moE m, moK m, moR m⟩
theorem letB_ok : ∀ k : Nat, k < 26 → nameB (letB k) = true := by decide +kernel
theorem moT_size (m : Mo) : (moT m).size ≤ 4 := by
  show (Lib.repeatL [120] (m.2.2.2.2 % 4).toNat).toArray.size ≤ 4
  rw [List.size_toArray, Lib.repeatL_length]
  simp; omega
theorem okE_moE {m : Mo} (h : okM m) : okE (moE m) = true := by
  have := h.a; have := h.b
  exact okE_mk (by omega)
theorem okP_enM {m : Mo} (h : okM m) : okP (enM m) = true := by
  have h1 : okE (enM m).e = true := okE_moE h
  have h2 : nameB (enM m).k = true := letB_ok _ (by have := h.c; omega)
  have h3 : okR (enM m).r = true := okR_mk ⟨by have := h.e; omega, by have := h.e; omega, by have := h.d; omega, by have := h.d; omega, by have := moT_size m; omega⟩
  unfold okP
  rw [h1, h2, h3]; rfl
/-- What is remembered behind one more memo. -/
def fillS (size : Int) (Q : List Mo) (m : Mo) : List Mo := if putC size (Q.map enM) (enM m) = 0 then Q ++ [m] else Q
structure Fil (size : Int) (P : List En) (Q : List Mo) : Prop where
  same : Same P (Q.map enM)
  ok : ∀ m ∈ Q, okM m
  le : (Q.length : Int) ≤ size
theorem Fil.nil {size : Int} (h : 0 ≤ size) : Fil size [] [] := ⟨Same.nil, by simp, by simpa using h⟩
theorem Fil.len {size : Int} {P : List En} {Q : List Mo} (h : Fil size P Q) : P.length = Q.length := by rw [h.same.len, List.length_map]
theorem Fil.step {size : Int} {P : List En} {Q : List Mo} (h : Fil size P Q) {m : Mo} (hm : okM m) : Fil size (putL size P (enM m)) (fillS size Q m) := by
  have hs := h.same.put size (enM m)
  unfold fillS
  by_cases hc : putC size (Q.map enM) (enM m) = 0
  · obtain ⟨_, _, hl⟩ := putC_zero hc
    rw [if_pos hc]
    unfold putR at hs
    rw [if_pos hc] at hs
    refine ⟨by rw [List.map_append]; exact hs, fun x hx => ?_, ?_⟩
    · rcases List.mem_append.1 hx with hx | hx
      · exact h.ok x hx
      · rw [List.mem_singleton] at hx; subst hx; exact hm
    · rw [List.length_map] at hl
      simp only [List.length_append, List.length_cons, List.length_nil]; omega
  · rw [if_neg hc]
    unfold putR at hs
    rw [if_neg hc] at hs
    exact ⟨hs, h.ok, h.le⟩
/-- The memo that is there for an effect. -/
def mof (Q : List Mo) (e : Ef) : Option Mo := Q.find? fun m => decide (moE m = e)
theorem look_map (e : Ef) : ∀ Q : List Mo, look (Q.map enM) e = (mof Q e).map enM
  | [] => rfl
  | m :: Q => by
    have ih := look_map e Q
    unfold look mof at ih ⊢
    rw [List.map_cons, List.find?_cons, List.find?_cons]
    show (match decide (moE m = e) with | true => some (enM m) | false => _) = _
    by_cases h : moE m = e
    · rw [decide_eq_true h]; rfl
    · rw [decide_eq_false h]; exact ih
theorem Fil.look {size : Int} {P : List En} {Q : List Mo} (h : Fil size P Q) (e : Ef) : look P e = (mof Q e).map enM := by rw [h.same.look, look_map]
theorem Fil.has {size : Int} {P : List En} {Q : List Mo} (h : Fil size P Q) (e : Ef) : hasB P e = (mof Q e).isSome := by
  unfold hasB; rw [h.look]; cases mof Q e <;> rfl
theorem mof_some {Q : List Mo} {e : Ef} {m : Mo} (h : mof Q e = some m) : m ∈ Q ∧ moE m = e := by
  unfold mof at h
  exact ⟨List.mem_of_find?_eq_some h, by simpa using List.find?_some h⟩
/-- What Put answers, in the words of filled. -/
theorem Fil.put {size : Int} {P : List En} {Q : List Mo} (h : Fil size P Q) {m : Mo} (hm : okM m) : putC size P (enM m) = if (mof Q (moE m)).isSome then 6 else if (Q.length : Int) = size then 4 else 0 := by
  unfold putC
  rw [if_pos (okP_enM hm), show (Go.Proofs.YtkdfhackpmdgfaaGreatDoor.look P (enM m).e).isSome = (mof Q (moE m)).isSome from h.has (moE m), h.len]
  cases (mof Q (moE m)).isSome
  · have hl := h.le
    rw [if_neg (by decide : ¬ (false = true))]
    try rw [if_neg (by decide : ¬ (false = true))]
    by_cases q : (Q.length : Int) = size
    · rw [if_pos q, if_pos (by omega)]
    · rw [if_neg q, if_neg (by omega)]
  · rfl
theorem Fil.putS {size : Int} {P : List En} {Q : List Mo} (h : Fil size P Q) {m : Mo} (hm : okM m) : fillS size Q m = if (mof Q (moE m)).isSome then Q else if (Q.length : Int) = size then Q else Q ++ [m] := by
  unfold fillS
  rw [← h.same.putC, h.put hm]
  cases (mof Q (moE m)).isSome
  · by_cases q : (Q.length : Int) = size
    · simp [q]
    · simp [q]
  · simp
theorem mof_snoc (Q : List Mo) (m : Mo) (e : Ef) (h : mof Q (moE m) = none) : mof (Q ++ [m]) e = if e = moE m then some m else mof Q e := by
  unfold mof at h ⊢
  rw [List.find?_append]
  by_cases he : e = moE m
  · subst he
    rw [h, if_pos rfl]; simp
  · rw [if_neg he, List.find?_cons, decide_eq_false (fun q => he q.symm)]
    cases List.find? (fun m => decide (moE m = e)) Q <;> rfl
end Go.Proofs.YtkdfhackpmdgfaaGreatDoor
