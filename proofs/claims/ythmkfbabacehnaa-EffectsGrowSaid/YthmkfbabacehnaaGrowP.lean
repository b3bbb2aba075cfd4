/- What may be added to a beginning of a whole sequence: the finite check. -/
import Derived.Test.YthmkfbabacehnaaWorks
namespace Go.Proofs.Ythmkfbabacehnaa
set_option linter.unusedSimpArgs false
set_option linter.unusedVariables false
/-- The beginnings of the whole sequences of the saga 1. -/
def pref (k : Nat) : List (List Ef) := (List.range (k + 1)).map (fun i => ups 1 i 1) ++ ((List.range (k + 1)).flatMap fun i => (List.range (i + 1)).map fun d => ups 1 i 1 ++ (ups 1 i 2).reverse.take d) ++ (List.range (k + 1)).map (fun d => ups 1 k 1 ++ ups 1 d 3)
def mayB (k : Nat) (p : List Ef) (x : Ef) : Bool := (nextR k p).1.any fun y => decide (y.2 = x.2)
def addAt (k : Nat) (p : List Ef) (x : Ef) : Bool :=
  let may := mayB k p x
  let a := legalR k (p ++ [x])
  let b := legalR k (p ++ [x] ++ [x])
  (a.1 == may) && decide (a.2.2 = 0) && (may || decide (a.2.1 = p.length)) && (b.1 == false) && decide (b.2.2 = 0) && (may || decide (b.2.1 = p.length))
def growAt (k : Nat) (p : List Ef) : Bool :=
  decide (legalR k p = (true, (p.length : Int), 0)) && decide ((wholeR k p).2.2 = 0) && decide ((nextR k p).2 = 0) && decide ((nextR k p).1.length ≤ 2) && (!(nextR k p).1.isEmpty || (wholeR k p).2.1) &&
  ((nextR k p).1.all fun x => (pref k).any fun q => decide (q = p ++ [resaga 1 x])) && ((grid 1 k).all fun x => addAt k p x)
def growOK (k : Nat) : Bool := (pref k).all (growAt k)
theorem grow_dec : ((List.range 8).all fun k => growOK (k + 1)) = true := by decide +kernel
theorem grow_at {k : Nat} (hk : 1 ≤ k ∧ k ≤ 8) {p : List Ef} (hp : p ∈ pref k) : growAt k p = true := by
  have h := List.all_eq_true.1 grow_dec (k - 1) (by rw [List.mem_range]; omega)
  rw [show k - 1 + 1 = k from by omega] at h
  exact List.all_eq_true.1 h p hp
theorem next_code (n : Int) (l : List Ef) : (nextR n l).2 = if okL n l then (if (legalR n l).1 then 0 else 9) else 2 := by
  unfold nextR legalR
  by_cases h : okL n l = true
  · rw [if_pos h, if_pos h, if_pos h]
    by_cases h2 : best (com l) (seqs 1 n.toNat) = l.length <;> simp [h2]
  · rw [if_neg h, if_neg h]
end Go.Proofs.Ythmkfbabacehnaa
