/- What is refused: the plain part. No program in sight. -/
import Derived.Test.YtkdfhackpmdgfaaDoorLongP
import Derived.Lib.Repeat
namespace Go.Proofs.YtkdfhackpmdgfaaDoor
set_option linter.unusedSimpArgs false
set_option linter.unusedVariables false
def lA : ByteArray := ⟨#[97]⟩
def lrg (c : UInt8) (k : Nat) : ByteArray := ⟨(Lib.repeatL [c] k).toArray⟩
theorem lrg_size (c : UInt8) (k : Nat) : (lrg c k).size = k := by
  show (Lib.repeatL [c] k).toArray.size = k
  rw [List.size_toArray, Lib.repeatL_length]; simp
theorem lrg_bad (c : UInt8) {k : Nat} (h : 17 ≤ k) : nameB (lrg c k) = false := by
  unfold nameB
  rw [lrg_size, show decide (k ≤ 16) = false from decide_eq_false (by omega), Bool.and_false, Bool.false_and]
/-- The entries that are not valid. -/
def badX (n : Int) (kk : ByteArray) : List En := [⟨(-n, 0, 1), lA, (0, 0, noText)⟩, ⟨(10000 + n, 0, 1), lA, (0, 0, noText)⟩, ⟨(1, 8 + n, 1), lA, (0, 0, noText)⟩, ⟨(1, 0, 4 + n), lA, (0, 0, noText)⟩,
  ⟨(9, 1, 1), noText, (0, 0, noText)⟩, ⟨(9, 1, 1), kk, (0, 0, noText)⟩, ⟨(9, 1, 1), ⟨#[65]⟩, (0, 0, noText)⟩,
  ⟨(9, 1, 1), lA, (19 + n, 0, noText)⟩, ⟨(9, 1, 1), lA, (-1 - n, 0, noText)⟩, ⟨(9, 1, 1), lA, (0, 1152921504606846977 + n, noText)⟩, ⟨(9, 1, 1), lA, (0, -1152921504606846977 - n, noText)⟩]
def badE (n : Int) : List En := badX n (lrg 97 (17 + n % 9).toNat)
theorem badX_len (n : Int) (kk : ByteArray) : (badX n kk).length = 11 := rfl
theorem okE_no {a b c : Int} (h : ¬ (1 ≤ a ∧ a ≤ 9999 ∧ 0 ≤ b ∧ b < 8 ∧ 1 ≤ c ∧ c ≤ 3)) : okE (a, b, c) = false := by
  rw [Bool.eq_false_iff]
  intro q
  simp only [okE, Bool.and_eq_true, decide_eq_true_eq] at q
  exact h ⟨q.1.1.1, q.1.1.2, q.1.2.1, q.1.2.2, q.2.1, q.2.2⟩
theorem okR_no {a b : Int} {s : ByteArray} (h : ¬ (0 ≤ a ∧ a ≤ 18 ∧ -1152921504606846976 ≤ b ∧ b ≤ 1152921504606846976)) : okR (a, b, s) = false := by
  rw [Bool.eq_false_iff]
  intro q
  simp only [okR, Bool.and_eq_true, decide_eq_true_eq] at q
  exact h ⟨q.1.1.1, q.1.1.2, q.1.2.1, q.1.2.2⟩
theorem okP_e {x : En} (h : okE x.e = false) : okP x = false := by unfold okP; rw [h]; rfl
theorem okP_k {x : En} (h : nameB x.k = false) : okP x = false := by unfold okP; rw [h, Bool.and_false]; rfl
theorem okP_r {x : En} (h : okR x.r = false) : okP x = false := by unfold okP; rw [h, Bool.and_false]
theorem badE_bad {n : Int} (h0 : 0 ≤ n) : ∀ x ∈ badE n, okP x = false ∧ x.k.size ≤ 25 + n.toNat := by
  intro x hx
  simp only [badE, badX, List.mem_cons, List.not_mem_nil, or_false] at hx
  have hl : (lrg 97 (17 + n % 9).toNat).size = (17 + n % 9).toNat := lrg_size _ _
  have hA : lA.size = 1 := rfl
  rcases hx with rfl | rfl | rfl | rfl | rfl | rfl | rfl | rfl | rfl | rfl | rfl
  · exact ⟨okP_e (okE_no (by omega)), by show lA.size ≤ _; omega⟩
  · exact ⟨okP_e (okE_no (by omega)), by show lA.size ≤ _; omega⟩
  · exact ⟨okP_e (okE_no (by omega)), by show lA.size ≤ _; omega⟩
  · exact ⟨okP_e (okE_no (by omega)), by show lA.size ≤ _; omega⟩
  · exact ⟨okP_k (by show nameB noText = false; decide +kernel), by show 0 ≤ _; omega⟩
  · exact ⟨okP_k (lrg_bad 97 (by omega)), by show (lrg 97 (17 + n % 9).toNat).size ≤ _; omega⟩
  · exact ⟨okP_k (by show nameB ⟨#[65]⟩ = false; decide +kernel), by show 1 ≤ _; omega⟩
  · exact ⟨okP_r (okR_no (by omega)), by show lA.size ≤ _; omega⟩
  · exact ⟨okP_r (okR_no (by omega)), by show lA.size ≤ _; omega⟩
  · exact ⟨okP_r (okR_no (by omega)), by show lA.size ≤ _; omega⟩
  · exact ⟨okP_r (okR_no (by omega)), by show lA.size ≤ _; omega⟩
theorem put_bad {size : Int} {P : List En} {x : En} (h : okP x = false) : putC size P x = 2 ∧ putL size P x = P := by
  have hc : putC size P x = 2 := by unfold putC; rw [h]; rfl
  exact ⟨hc, by unfold putL; rw [hc, if_neg (by decide)]⟩
/-- The ranges that are not valid. -/
def badG : List Rg := [(⟨#[98]⟩, ⟨#[97]⟩), (⟨#[97]⟩, ⟨#[97]⟩), (⟨#[65]⟩, noText), (lrg 97 17, noText), (noText, ⟨#[45]⟩), (⟨#[98]⟩, lrg 99 17)]
theorem badG_bad : ∀ g ∈ badG, okG g = false ∧ g.1.size ≤ 17 ∧ g.2.size ≤ 17 := by decide +kernel
theorem take_bad {g : Rg} {P : List En} (h : okG g = false) : takeC g = 2 ∧ takeO g P = [] ∧ takeL g P = P := by
  unfold takeC takeO takeL
  rw [h]; exact ⟨rfl, rfl, rfl⟩
end Go.Proofs.YtkdfhackpmdgfaaDoor
