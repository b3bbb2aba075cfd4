/- What the whole sequences are: the finite check. -/
import Derived.Test.YthmkfbabacehnaaDoorWorks
namespace Go.Proofs.YthmkfbabacehnaaDoor
open Go.RowKit Go.Shelf
set_option linter.unusedSimpArgs false
set_option linter.unusedVariables false
set_option linter.unusedSectionVars false
set_option maxRecDepth 10000
def endAt (k i : Nat) (m : List Ef) : Bool := decide (wholeR k m = (if i ≤ k then 5 else 4, true, 0)) && decide (m.length = if i ≤ k then 2 * i else 2 * k) && ((List.range i).all fun j => decide (((seqs 1 k)[j]?).map (·.2) ≠ some m)) && (m.isEmpty || (decide (nextR k m = ([], 0)) && decide (wholeR k (m.take (m.length - 1)) = (0, false, 0))))
def endsOK (k : Nat) : Bool := (List.range (k + 2)).all fun i => match (seqs 1 k)[i]? with | some x => endAt k i x.2 | none => false
theorem ends_dec : ((List.range 8).all fun k => endsOK (k + 1)) = true := by decide +kernel
theorem ends_at {k i : Nat} (hk : 1 ≤ k ∧ k ≤ 8) {x : Int × List Ef} (hx : (seqs 1 k)[i]? = some x) : endAt k i x.2 = true := by
  have h := List.all_eq_true.1 ends_dec (k - 1) (by rw [List.mem_range]; omega)
  rw [show k - 1 + 1 = k from by omega] at h
  have hi : i < k + 2 := by have := (List.getElem?_eq_some_iff.1 hx).1; simpa [seqs] using this
  have h2 := List.all_eq_true.1 h i (by rw [List.mem_range]; exact hi)
  rw [hx] at h2
  exact h2
theorem endAt_iff {k i : Nat} {m : List Ef} (h : endAt k i m = true) : wholeR k m = (if i ≤ k then 5 else 4, true, 0) ∧ m.length = (if i ≤ k then 2 * i else 2 * k) ∧ (∀ j, j < i → ((seqs 1 k)[j]?).map (·.2) ≠ some m) ∧ (m = [] ∨ (nextR k m = ([], 0) ∧ wholeR k (m.take (m.length - 1)) = (0, false, 0))) := by
  simp only [endAt, Bool.and_eq_true, Bool.or_eq_true, decide_eq_true_eq, List.all_eq_true, List.mem_range, List.isEmpty_iff, and_assoc] at h
  exact h
end Go.Proofs.YthmkfbabacehnaaDoor
