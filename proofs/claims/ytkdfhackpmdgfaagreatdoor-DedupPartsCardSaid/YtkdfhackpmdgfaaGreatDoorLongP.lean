/- A table of the greatest size is filled: the plain part. No program in sight. -/
import Derived.Test.YtkdfhackpmdgfaaGreatDoorDedQ
namespace Go.Proofs.YtkdfhackpmdgfaaGreatDoor
set_option linter.unusedSimpArgs false
set_option linter.unusedVariables false
/-- The entry of the number n. -/
def lnE (n : Nat) : En := ⟨(1 + (n : Int) / 24, (n : Int) / 3 % 8, 1 + (n : Int) % 3), ⟨#[107]⟩, (0, (n : Int), noText)⟩
/-- The greatest entry. -/
def bigE (data : ByteArray) : En := ⟨(9999, 7, 3), ⟨#[122, 122, 122, 122, 122, 122, 122, 122, 122, 122, 122, 122, 122, 122, 122, 122]⟩, (18, -1152921504606846976, data)⟩
def fullE : En := ⟨(5000, 0, 1), ⟨#[107]⟩, (0, 0, noText)⟩
def haveE : En := ⟨(2, 0, 1), ⟨#[107]⟩, (0, 0, noText)⟩
/-- Filled up to the number n. -/
structure Fl (P : List En) (n : Nat) : Prop where
  len : P.length = n
  all : ∀ x ∈ P, x.e = (9999, 7, 3) ∨ ∃ m : Nat, m < n ∧ x.e = (lnE m).e
  has : ∀ m : Nat, 1 ≤ m → m < n → ∃ x ∈ P, x.e = (lnE m).e
theorem lnE_inj {m n : Nat} (h : (lnE m).e = (lnE n).e) : m = n := by
  simp only [lnE, Prod.mk.injEq] at h
  obtain ⟨h1, h2, h3⟩ := h
  omega
theorem okE_mk {a b c : Int} (h : 1 ≤ a ∧ a ≤ 9999 ∧ 0 ≤ b ∧ b < 8 ∧ 1 ≤ c ∧ c ≤ 3) : okE (a, b, c) = true := by
  simp only [okE, Bool.and_eq_true, decide_eq_true_eq]
  exact ⟨⟨⟨h.1, h.2.1⟩, h.2.2.1, h.2.2.2.1⟩, h.2.2.2.2.1, h.2.2.2.2.2⟩
theorem okR_mk {a b : Int} {s : ByteArray} (h : 0 ≤ a ∧ a ≤ 18 ∧ -1152921504606846976 ≤ b ∧ b ≤ 1152921504606846976 ∧ s.size ≤ 65536) : okR (a, b, s) = true := by
  simp only [okR, Bool.and_eq_true, decide_eq_true_eq]
  exact ⟨⟨⟨h.1, h.2.1⟩, h.2.2.1, h.2.2.2.1⟩, h.2.2.2.2⟩
theorem lnE_ok {n : Nat} (h : n < 2048) : okP (lnE n) = true := by
  have hk : nameB ⟨#[107]⟩ = true := by decide +kernel
  have h1 : okE (lnE n).e = true := okE_mk (by omega)
  have h2 : okR (lnE n).r = true := okR_mk ⟨by omega, by omega, by omega, by omega, by decide⟩
  unfold okP
  rw [h1, h2]
  show (true && nameB ⟨#[107]⟩ && true) = true
  rw [hk]; rfl
theorem look_not {P : List En} {e : Ef} (h : ∀ y ∈ P, y.e ≠ e) : (look P e).isSome = false := by
  unfold look
  rw [Option.isSome_eq_false_iff, Option.isNone_iff_eq_none, List.find?_eq_none]
  intro y hy
  simpa using h y hy
theorem look_is {P : List En} {e : Ef} {y : En} (hy : y ∈ P) (h : y.e = e) : (look P e).isSome = true := by
  unfold look
  rw [List.find?_isSome]
  exact ⟨y, hy, by simpa using h⟩
theorem Fl.step {P : List En} {n : Nat} (h : Fl P n) (hn : n < 2048) : putC 2048 P (lnE n) = 0 ∧ Fl (putL 2048 P (lnE n)) (n + 1) := by
  have hc : putC 2048 P (lnE n) = 0 := by
    unfold putC
    have h1 : (look P (lnE n).e).isSome = false := look_not fun y hy q => by
      rcases h.all y hy with e | ⟨m, hm, e⟩
      · rw [e] at q
        have := congrArg (fun z : Ef => z.1) q
        simp only [lnE] at this
        omega
      · have := lnE_inj (e.symm.trans q)
        omega
    rw [if_pos (lnE_ok hn), if_neg (by rw [h1]; decide), if_neg (by rw [h.len]; omega)]
  refine ⟨hc, ?_⟩
  unfold putL
  rw [if_pos hc]
  refine ⟨by rw [ins_len, h.len], fun x hx => ?_, fun m h1 h2 => ?_⟩
  · rcases mem_ins.1 hx with rfl | hx
    · exact .inr ⟨n, by omega, rfl⟩
    · rcases h.all x hx with e | ⟨m, hm, e⟩
      · exact .inl e
      · exact .inr ⟨m, by omega, e⟩
  · by_cases q : m = n
    · exact ⟨lnE n, mem_ins.2 (.inl rfl), by rw [q]⟩
    · obtain ⟨x, hx, e⟩ := h.has m h1 (by omega)
      exact ⟨x, mem_ins.2 (.inr hx), e⟩
theorem Fl.full {P : List En} (h : Fl P 2048) : putC 2048 P fullE = 4 ∧ putC 2048 P haveE = 6 := by
  constructor
  · unfold putC
    have h1 : (look P fullE.e).isSome = false := look_not fun y hy q => by
      rcases h.all y hy with e | ⟨m, hm, e⟩
      · rw [e] at q; exact absurd q (by decide)
      · have := congrArg (fun z : Ef => z.1) (e.symm.trans q)
        simp only [lnE, fullE] at this
        omega
    rw [if_pos (by decide +kernel), if_neg (by rw [h1]; decide), if_pos (by rw [h.len]; omega)]
  · unfold putC
    obtain ⟨x, hx, e⟩ := h.has 24 (by omega) (by omega)
    have h1 : (look P haveE.e).isSome = true := look_is hx (e.trans (by decide))
    rw [if_pos (by decide +kernel), if_pos h1]
theorem bigE_ok (data : ByteArray) : okP (bigE data) = decide (data.size ≤ 65536) := by
  have hk : nameB (bigE data).k = true := by show nameB ⟨#[122, 122, 122, 122, 122, 122, 122, 122, 122, 122, 122, 122, 122, 122, 122, 122]⟩ = true; decide +kernel
  unfold okP
  rw [hk, show okE (bigE data).e = true from rfl, Bool.true_and, Bool.true_and]
  by_cases h : data.size ≤ 65536
  · rw [decide_eq_true h]
    exact okR_mk ⟨by omega, by omega, by omega, by omega, h⟩
  · rw [decide_eq_false h]
    show okR (18, -1152921504606846976, data) = false
    unfold okR
    rw [show decide ((18, (-1152921504606846976 : Int), data).2.2.size ≤ 65536) = false from decide_eq_false h, Bool.and_false]
/-- The first put: at most 65536 bytes. -/
theorem big_yes {data : ByteArray} (h : data.size ≤ 65536) : putC 2048 [] (bigE data) = 0 ∧ putL 2048 [] (bigE data) = [bigE data] := by
  have hc : putC 2048 [] (bigE data) = 0 := by
    unfold putC
    rw [if_pos (by rw [bigE_ok]; exact decide_eq_true h)]
    rfl
  exact ⟨hc, by unfold putL; rw [if_pos hc]; rfl⟩
theorem big_no {data : ByteArray} (h : ¬ data.size ≤ 65536) : putC 2048 [] (bigE data) = 2 ∧ putL 2048 [] (bigE data) = [] := by
  have hc : putC 2048 [] (bigE data) = 2 := by
    unfold putC
    rw [if_neg (by rw [bigE_ok, decide_eq_false h]; decide)]
  exact ⟨hc, by unfold putL; rw [if_neg (by rw [hc]; decide)]⟩
theorem Fl.nil : Fl [] 0 := ⟨rfl, by simp, fun m h1 h2 => by omega⟩
theorem Fl.one (data : ByteArray) : Fl [bigE data] 1 := ⟨rfl, fun x hx => .inl (by rw [List.mem_singleton] at hx; rw [hx]; rfl), fun m h1 h2 => by omega⟩
theorem big_get (data : ByteArray) : getR [bigE data] (9999, 7, 3) = (18, -1152921504606846976, data) ∧ hasB [bigE data] (9999, 7, 3) = true := ⟨rfl, rfl⟩
theorem nil_get : getR [] (9999, 7, 3) = (0, 0, noText) ∧ hasB [] (9999, 7, 3) = false := ⟨rfl, rfl⟩
end Go.Proofs.YtkdfhackpmdgfaaGreatDoor
