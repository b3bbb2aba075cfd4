/- Effects in plain Lean: whole sequences, beginnings, what may come next; program's words and the document's words agree. No program in sight. -/
import Derived.Lib.Hide
namespace Go.Proofs.YtkdfhackpmdgfaaGreatDoor
set_option linter.unusedSimpArgs false
set_option linter.unusedVariables false
/-- An effect: its saga, its step, its phase. -/
abbrev Ef := Int × Int × Int
def ups (s : Int) (k : Nat) (p : Int) : List Ef := (List.range k).map fun (i : Nat) => (s, (i : Int), p)
def seqA (s : Int) (k : Nat) : List Ef := ups s k 1 ++ (ups s k 2).reverse
def seqD (s : Int) (n : Nat) : List Ef := ups s n 1 ++ ups s n 3
/-- The whole sequences of a saga, with their ends. -/
def seqs (s : Int) (n : Nat) : List (Int × List Ef) := (List.range (n + 1)).map (fun k => ((5 : Int), seqA s k)) ++ [(4, seqD s n)]
def okE (x : Ef) : Bool := decide (1 ≤ x.1) && decide (x.1 ≤ 9999) && (decide (0 ≤ x.2.1) && decide (x.2.1 < 8)) && (decide (1 ≤ x.2.2) && decide (x.2.2 ≤ 3))
def okN (n : Int) : Bool := decide (1 ≤ n) && decide (n ≤ 8)
def head (l : List Ef) : Int := (l.headD (0, 0, 0)).1
def okX (n s : Int) (x : Ef) : Bool := okE x && decide (x.2.1 < n) && decide (x.1 = s)
def okL (n : Int) (l : List Ef) : Bool := okN n && l.all (okX n (head l))
/-- How many effects two lists have in common at their beginnings: the program's, the document's. -/
def beg : List Ef → List Ef → Nat
  | x :: l, y :: m => if x = y then beg l m + 1 else 0
  | _, _ => 0
def com : List Ef → List Ef → Nat
  | x :: l, y :: m => if x.2 = y.2 then com l m + 1 else 0
  | _, _ => 0
theorem beg_le : ∀ l m : List Ef, beg l m ≤ l.length ∧ beg l m ≤ m.length
  | [], m => by simp [beg]
  | x :: l, [] => by simp [beg]
  | x :: l, y :: m => by
    have := beg_le l m
    simp only [beg, List.length_cons]; split <;> omega
theorem com_le : ∀ l m : List Ef, com l m ≤ l.length ∧ com l m ≤ m.length
  | [], m => by simp [com]
  | x :: l, [] => by simp [com]
  | x :: l, y :: m => by
    have := com_le l m
    simp only [com, List.length_cons]; split <;> omega
def best (f : List Ef → Nat) (ss : List (Int × List Ef)) : Nat := ss.foldl (fun b m => max b (f m.2)) 0
/-- What Legal, Whole say: the program's. -/
def legalP (n : Int) (l : List Ef) : Bool × Int × Int :=
  if okL n l then (decide (best (beg l) (seqs (head l) n.toNat) = l.length), (best (beg l) (seqs (head l) n.toNat) : Nat), 0) else (false, 0, 2)
def legalR (n : Int) (l : List Ef) : Bool × Int × Int :=
  if okL n l then (decide (best (com l) (seqs 1 n.toNat) = l.length), (best (com l) (seqs 1 n.toNat) : Nat), 0) else (false, 0, 2)
def wholeP (n : Int) (l : List Ef) : Int × Bool × Int :=
  if okL n l then (match (seqs (head l) n.toNat).find? (fun m => decide (l = m.2)) with | some m => (m.1, true, 0) | none => (0, false, 0)) else (0, false, 2)
def wholeR (n : Int) (l : List Ef) : Int × Bool × Int :=
  if okL n l then (match (seqs 1 n.toNat).find? (fun m => decide (m.2.length = l.length ∧ com l m.2 = l.length)) with | some m => (m.1, true, 0) | none => (0, false, 0)) else (0, false, 2)
/-- The program's candidates, one by one; then sorted. -/
def cand (l : List Ef) (out : List Ef) (m : List Ef) : List Ef :=
  match m[l.length]? with
  | some x => if beg l m = l.length ∧ x ∉ out then out ++ [x] else out
  | none => out
def cands (s : Int) (n : Nat) (l : List Ef) : List Ef := (seqs s n).foldl (fun out m => cand l out m.2) []
def efLt (x y : Ef) : Bool := decide (x.1 < y.1) || (decide (x.1 = y.1) && (decide (x.2.1 < y.2.1) || (decide (x.2.1 = y.2.1) && decide (x.2.2 < y.2.2))))
def nextP (n : Int) (l : List Ef) : List Ef × Int :=
  if okL n l then (if best (beg l) (seqs (head l) n.toNat) = l.length then ((cands (head l) n.toNat l).mergeSort (fun x y => !efLt y x), 0) else ([], 9)) else ([], 2)
def grid (s : Int) (n : Nat) : List Ef := (List.range n).flatMap fun (i : Nat) => [(s, (i : Int), 1), (s, (i : Int), 2), (s, (i : Int), 3)]
def may (n : Nat) (l : List Ef) (x : Ef) : Bool := (seqs 1 n).any fun m => decide (com l m.2 = l.length) && (match m.2[l.length]? with | some y => decide (y.2 = x.2) | none => false)
def nextR (n : Int) (l : List Ef) : List Ef × Int :=
  if okL n l then (if best (com l) (seqs 1 n.toNat) = l.length then ((grid (head l) n.toNat).filter (may n.toNat l), 0) else ([], 9)) else ([], 2)
/-- All whole sequences. -/
def allS (n : Int) : List (List Ef) × Int := if okN n then ((seqs 1 n.toNat).map (·.2), 0) else ([], 2)

/-! ### From a saga to the saga 1 -/
def resaga (s : Int) (x : Ef) : Ef := (s, x.2)
theorem ups_re (s : Int) (k : Nat) (p : Int) : ups s k p = (ups 1 k p).map (resaga s) := by simp [ups, resaga, Function.comp_def]
theorem seqA_re (s : Int) (k : Nat) : seqA s k = (seqA 1 k).map (resaga s) := by
  simp only [seqA, List.map_append, List.map_reverse, ← ups_re]
theorem seqD_re (s : Int) (n : Nat) : seqD s n = (seqD 1 n).map (resaga s) := by
  simp only [seqD, List.map_append, ← ups_re]
theorem seqs_re (s : Int) (n : Nat) : seqs s n = (seqs 1 n).map fun m => (m.1, m.2.map (resaga s)) := by
  unfold seqs
  rw [List.map_append, List.map_map]
  congr 1
  · exact List.map_congr_left fun k _ => by simp only [Function.comp_def]; rw [seqA_re]
  · simp only [List.map_cons, List.map_nil]; rw [seqD_re]
theorem beg_re {s : Int} : ∀ (l m : List Ef), (∀ x ∈ l, x.1 = s) → beg l (m.map (resaga s)) = com l m
  | [], m, _ => by cases m <;> rfl
  | x :: l, [], _ => rfl
  | x :: l, y :: m, h => by
    have h1 := h x (by simp)
    have ih := beg_re l m fun z hz => h z (by simp [hz])
    simp only [List.map_cons, beg, com, ih]
    have : (x = resaga s y) ↔ (x.2 = y.2) := by
      constructor
      · intro e; rw [e]; rfl
      · intro e; exact Prod.ext h1 e
    by_cases hxy : x.2 = y.2
    · rw [if_pos (this.2 hxy), if_pos hxy]
    · rw [if_neg (fun e => hxy (this.1 e)), if_neg hxy]
theorem okL_saga {n : Int} {l : List Ef} (h : okL n l = true) : ∀ x ∈ l, x.1 = head l := by
  intro x hx
  simp only [okL, Bool.and_eq_true, List.all_eq_true] at h
  have := h.2 x hx
  simp only [okX, Bool.and_eq_true, decide_eq_true_eq] at this
  exact this.2
theorem best_re {s : Int} {l : List Ef} (h : ∀ x ∈ l, x.1 = s) (n : Nat) : best (beg l) (seqs s n) = best (com l) (seqs 1 n) := by
  rw [seqs_re]
  unfold best
  rw [List.foldl_map]
  congr 1
  funext b m
  simp only [beg_re l m.2 h]
theorem legal_eq (n : Int) (l : List Ef) : legalP n l = legalR n l := by
  unfold legalP legalR
  split
  · rename_i h
    rw [best_re (okL_saga h)]
  · rfl
theorem beg_full : ∀ (l m : List Ef), l = m → beg l m = l.length
  | [], _, rfl => rfl
  | x :: l, _, rfl => by simp [beg, beg_full l l rfl]
theorem beg_all : ∀ (l m : List Ef), m.length = l.length → beg l m = l.length → l = m
  | [], [], _, _ => rfl
  | x :: l, y :: m, h1, h2 => by
    simp only [beg] at h2
    split at h2
    · rename_i e
      rw [e, beg_all l m (by simpa using h1) (by simpa using h2)]
    · simp at h2
theorem find_congr {α β : Type} {f : α → β} {p : α → Bool} {q : β → Bool} (h : ∀ x, q (f x) = p x) : ∀ l : List α, (l.map f).find? q = (l.find? p).map f
  | [] => rfl
  | x :: l => by
    simp only [List.map_cons, List.find?_cons, h]
    cases p x <;> simp [find_congr h l]
theorem whole_eq (n : Int) (l : List Ef) : wholeP n l = wholeR n l := by
  unfold wholeP wholeR
  split
  · rename_i h
    rw [seqs_re, find_congr (p := fun m => decide (m.2.length = l.length ∧ com l m.2 = l.length))]
    · cases (seqs 1 n.toNat).find? (fun m => decide (m.2.length = l.length ∧ com l m.2 = l.length)) <;> rfl
    · intro m
      rw [decide_eq_decide, ← beg_re l m.2 (okL_saga h)]
      constructor
      · intro e
        exact ⟨by have := congrArg List.length e; simpa using this.symm, beg_full _ _ e⟩
      · intro e
        exact beg_all _ _ (by simpa using e.1) e.2
  · rfl

/-! ### What may come next -/
theorem mem_cand {l : List Ef} (out m : List Ef) (x : Ef) : x ∈ cand l out m ↔ x ∈ out ∨ (beg l m = l.length ∧ m[l.length]? = some x) := by
  unfold cand
  cases hm : m[l.length]? with
  | none => simp
  | some y =>
    simp only [Option.some.injEq]
    by_cases hc : beg l m = l.length ∧ y ∉ out
    · rw [if_pos hc, List.mem_append, List.mem_singleton]
      exact ⟨fun h => h.imp id fun e => ⟨hc.1, e.symm⟩, fun h => h.imp id fun e => e.2.symm⟩
    · rw [if_neg hc]
      refine ⟨.inl, fun h => h.elim id fun e => ?_⟩
      by_cases hy : y ∈ out
      · rw [← e.2]; exact hy
      · exact absurd ⟨e.1, hy⟩ hc
theorem nodup_cand {l : List Ef} (out m : List Ef) (h : out.Nodup) : (cand l out m).Nodup := by
  unfold cand
  split
  · split
    · rename_i hc
      rw [List.nodup_append]
      exact ⟨h, by simp, fun a ha b hb => by simp only [List.mem_singleton] at hb; subst hb; exact fun e => hc.2 (e ▸ ha)⟩
    · exact h
  · exact h
theorem mem_candF {l : List Ef} (x : Ef) : ∀ (ss : List (Int × List Ef)) (out : List Ef), x ∈ ss.foldl (fun out m => cand l out m.2) out ↔ x ∈ out ∨ ∃ m ∈ ss, beg l m.2 = l.length ∧ m.2[l.length]? = some x
  | [], out => by simp
  | m :: ss, out => by
    rw [List.foldl_cons, mem_candF x ss, mem_cand]
    simp only [List.mem_cons, exists_eq_or_imp, or_assoc]
theorem nodup_candF {l : List Ef} : ∀ (ss : List (Int × List Ef)) (out : List Ef), out.Nodup → (ss.foldl (fun out m => cand l out m.2) out).Nodup
  | [], out, h => h
  | m :: ss, out, h => nodup_candF ss _ (nodup_cand _ _ h)
theorem mem_ups {s : Int} {k : Nat} {p : Int} {x : Ef} (h : x ∈ ups s k p) : ∃ i : Nat, i < k ∧ x = (s, (i : Int), p) := by
  simp only [ups, List.mem_map, List.mem_range] at h
  obtain ⟨i, hi, e⟩ := h
  exact ⟨i, hi, e.symm⟩
theorem mem_seqs {s : Int} {n : Nat} {m : Int × List Ef} (h : m ∈ seqs s n) {x : Ef} (hx : x ∈ m.2) : ∃ i : Nat, i < n ∧ (x = (s, (i : Int), 1) ∨ x = (s, (i : Int), 2) ∨ x = (s, (i : Int), 3)) := by
  simp only [seqs, List.mem_append, List.mem_map, List.mem_range, List.mem_singleton] at h
  rcases h with ⟨k, hk, rfl⟩ | rfl
  · simp only [seqA, List.mem_append, List.mem_reverse] at hx
    rcases hx with hx | hx
    · obtain ⟨i, hi, e⟩ := mem_ups hx
      exact ⟨i, by omega, .inl e⟩
    · obtain ⟨i, hi, e⟩ := mem_ups hx
      exact ⟨i, by omega, .inr (.inl e)⟩
  · simp only [seqD, List.mem_append] at hx
    rcases hx with hx | hx
    · obtain ⟨i, hi, e⟩ := mem_ups hx
      exact ⟨i, hi, .inl e⟩
    · obtain ⟨i, hi, e⟩ := mem_ups hx
      exact ⟨i, hi, .inr (.inr e)⟩
theorem mem_grid {s : Int} {n : Nat} {x : Ef} : x ∈ grid s n ↔ ∃ i : Nat, i < n ∧ (x = (s, (i : Int), 1) ∨ x = (s, (i : Int), 2) ∨ x = (s, (i : Int), 3)) := by
  simp [grid, List.mem_flatMap, List.mem_range]
theorem efLt_iff (x y : Ef) : efLt x y = true ↔ x.1 < y.1 ∨ (x.1 = y.1 ∧ (x.2.1 < y.2.1 ∨ (x.2.1 = y.2.1 ∧ x.2.2 < y.2.2))) := by
  simp [efLt]
theorem efLt_total (x y : Ef) (h : efLt x y = false) (h' : efLt y x = false) : x = y := by
  have h1 : ¬ _ := fun e => by rw [(efLt_iff x y).2 e] at h; cases h
  have h2 : ¬ _ := fun e => by rw [(efLt_iff y x).2 e] at h'; cases h'
  obtain ⟨a, b, c⟩ := x
  obtain ⟨d, e, f⟩ := y
  simp only [Prod.mk.injEq] at *
  omega
theorem efLt_asymm {x y : Ef} (h : efLt x y = true) : efLt y x = false := by
  cases h2 : efLt y x with
  | false => rfl
  | true =>
    rw [efLt_iff] at h h2
    omega
theorem efLe_trans (x y z : Ef) (h : (!efLt y x) = true) (h2 : (!efLt z y) = true) : (!efLt z x) = true := by
  rw [Bool.not_eq_true'] at h h2 ⊢
  cases h3 : efLt z x with
  | false => rfl
  | true =>
    have h1 : ¬ _ := fun e => by rw [(efLt_iff y x).2 e] at h; cases h
    have h4 : ¬ _ := fun e => by rw [(efLt_iff z y).2 e] at h2; cases h2
    rw [efLt_iff] at h3
    omega
theorem efLe_total (x y : Ef) : ((!efLt y x) || (!efLt x y)) = true := by
  cases h : efLt y x with
  | false => rfl
  | true => rw [efLt_asymm h]; rfl
theorem grid_sorted (s : Int) (n : Nat) : (grid s n).Pairwise (fun x y => efLt x y = true) := by
  unfold grid
  rw [List.pairwise_flatMap]
  refine ⟨fun i _ => by simp [efLt], ?_⟩
  refine List.Pairwise.imp ?_ List.pairwise_lt_range
  intro i j hij x hx y hy
  simp only [List.mem_cons, List.not_mem_nil, or_false] at hx hy
  rw [efLt_iff]
  rcases hx with rfl | rfl | rfl <;> rcases hy with rfl | rfl | rfl <;> simp <;> omega
theorem nodup_of_sorted {l : List Ef} (h : l.Pairwise fun x y => efLt x y = true) : l.Nodup :=
  h.imp fun {x y} hl e => by subst e; rw [efLt_asymm hl] at hl; cases hl
theorem may_iff {s : Int} {n : Nat} {l : List Ef} (hs : ∀ x ∈ l, x.1 = s) (x : Ef) (hx : x.1 = s) : may n l x = true ↔ ∃ m ∈ seqs s n, beg l m.2 = l.length ∧ m.2[l.length]? = some x := by
  rw [seqs_re]
  simp only [may, List.any_eq_true, Bool.and_eq_true, decide_eq_true_eq, List.mem_map]
  constructor
  · rintro ⟨m, hm, h1, h2⟩
    refine ⟨_, ⟨m, hm, rfl⟩, by rw [beg_re l m.2 hs]; exact h1, ?_⟩
    rw [List.getElem?_map]
    cases h3 : m.2[l.length]? with
    | none => rw [h3] at h2; cases h2
    | some y =>
      rw [h3] at h2
      simp only [decide_eq_true_eq] at h2
      simp only [Option.map_some, Option.some.injEq, resaga]
      exact Prod.ext hx.symm h2
  · rintro ⟨_, ⟨m, hm, rfl⟩, h1, h2⟩
    refine ⟨m, hm, by rw [← beg_re l m.2 hs]; exact h1, ?_⟩
    rw [List.getElem?_map] at h2
    cases h3 : m.2[l.length]? with
    | none => rw [h3] at h2; cases h2
    | some y =>
      rw [h3] at h2
      simp only [Option.map_some, Option.some.injEq] at h2
      simp [← h2, resaga]
theorem cands_eq {s : Int} {n : Nat} {l : List Ef} (hs : ∀ x ∈ l, x.1 = s) : (cands s n l).mergeSort (fun x y => !efLt y x) = (grid s n).filter (may n l) := by
  refine List.Perm.eq_of_pairwise (le := fun x y => (!efLt y x) = true) ?_ (List.pairwise_mergeSort efLe_trans efLe_total _) ?_ ?_
  · intro a b _ _ h1 h2
    rw [Bool.not_eq_true'] at h1 h2
    exact efLt_total a b h2 h1
  · exact ((grid_sorted s n).filter _).imp fun {x y} h => by rw [efLt_asymm h]; rfl
  · refine (List.mergeSort_perm _ _).trans ((List.perm_ext_iff_of_nodup (nodup_candF _ _ List.nodup_nil) (nodup_of_sorted ((grid_sorted s n).filter _))).2 fun x => ?_)
    rw [mem_candF, List.mem_filter, mem_grid]
    simp only [List.not_mem_nil, false_or]
    constructor
    · rintro ⟨m, hm, h1, h2⟩
      obtain ⟨i, hi, hx⟩ := mem_seqs hm (List.mem_of_getElem? h2)
      have hx1 : x.1 = s := by rcases hx with rfl | rfl | rfl <;> rfl
      exact ⟨⟨i, hi, hx⟩, (may_iff hs x hx1).2 ⟨m, hm, h1, h2⟩⟩
    · rintro ⟨⟨i, hi, hx⟩, hm⟩
      have hx1 : x.1 = s := by rcases hx with rfl | rfl | rfl <;> rfl
      exact (may_iff hs x hx1).1 hm
theorem next_eq (n : Int) (l : List Ef) : nextP n l = nextR n l := by
  unfold nextP nextR
  split
  · rename_i h
    rw [best_re (okL_saga h), cands_eq (okL_saga h)]
  · rfl
end Go.Proofs.YtkdfhackpmdgfaaGreatDoor
