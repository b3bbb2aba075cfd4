/- All whole sequences: the document's. -/
import Derived.Test.YthmkfbabacehnaaDoorLls
namespace Go.Proofs.YthmkfbabacehnaaDoor
open Go.RowKit Go.Shelf
set_option linter.unusedSimpArgs false
set_option linter.unusedVariables false
set_option linter.unusedSectionVars false
set_option maxRecDepth 10000
attribute [local go_sem ↓] hideAppend
theorem rev_more {s p : Int} {k m : Nat} (h : m < k) : (ups s k p).reverse.take (m + 1) = (ups s k p).reverse.take m ++ [(s, (k : Int) - 1 - m, p)] := by
  have hl : (ups s k p).length = k := by simp [ups]
  rw [List.take_add_one]
  congr 1
  rw [List.getElem?_reverse (by rw [hl]; omega), hl]
  simp only [ups, List.getElem?_map]
  rw [List.getElem?_range (by omega)]
  simp only [Option.map_some, Option.toList]
  congr 2
  congr 1
  omega
def seqAs (k : Nat) : List (List Ef) := (List.range k).map (seqA 1)
theorem seqAs_more (k : Nat) : seqAs k ++ [seqA 1 k] = seqAs (k + 1) := by simp [seqAs, List.range_succ]
theorem allS_ok {N : Nat} (h : 1 ≤ N ∧ N ≤ 8) : allS (N : Int) = (seqAs (N + 1) ++ [seqD 1 N], 0) := by
  have : okN (N : Int) = true := by simp [okN]; omega
  unfold allS
  rw [if_pos this]
  simp [seqs, seqAs, Function.comp_def]
theorem allS_no {N : Int} (h : ¬ (1 ≤ N ∧ N ≤ 8)) : allS N = ([], 2) := by
  have : okN N = false := by simp only [okN, Bool.and_eq_false_iff, decide_eq_false_iff_not]; omega
  unfold allS
  rw [this]; rfl
end Go.Proofs.YthmkfbabacehnaaDoor
