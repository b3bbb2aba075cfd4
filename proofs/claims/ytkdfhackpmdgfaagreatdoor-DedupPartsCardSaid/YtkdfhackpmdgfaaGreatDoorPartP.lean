/- Ranges that are taken one after the other: the plain part. No program in sight. -/
import Derived.Test.YtkdfhackpmdgfaaGreatDoorDedQ
namespace Go.Proofs.YtkdfhackpmdgfaaGreatDoor
set_option linter.unusedSimpArgs false
set_option linter.unusedVariables false
section
variable {a b c : ByteArray}
theorem less_asym {x y : ByteArray} (h : lessB x y = true) : lessB y x = false := by
  cases h2 : lessB y x with
  | false => rfl
  | true => rw [← less_irr x]; exact (less_trans h h2).symm
theorem inG_two (hb : b ≠ noText) (hc : c ≠ noText) (hbc : lessB b c = true) (k : ByteArray) (h : inG (b, c) k = true) : inG (a, b) k = false := by
  simp only [inG, decide_eq_false hc, decide_eq_false hb, Bool.false_or, Bool.and_eq_true, Bool.not_eq_true'] at h ⊢
  rw [h.1, Bool.and_false]
theorem inG_all (hb : b ≠ noText) (hc : c ≠ noText) (hab : lessB a b = true) (hbc : lessB b c = true) (k : ByteArray) : inG (a, c) k = (inG (a, b) k || inG (b, c) k) := by
  simp only [inG, decide_eq_false hc, decide_eq_false hb, Bool.false_or]
  cases h1 : lessB k b with
  | true =>
    rw [less_trans h1 hbc]
    simp
  | false =>
    have h2 : lessB k a = false := by
      cases h2 : lessB k a with
      | false => rfl
      | true => rw [← h1]; exact (less_trans h2 hab).symm
    rw [h2]; simp
variable {P : List En}
structure Cut3 (a b c : ByteArray) : Prop where
  b0 : b ≠ noText
  c0 : c ≠ noText
  ab : lessB a b = true
  bc : lessB b c = true
  o1 : okG (a, b) = true
  o2 : okG (b, c) = true
  o3 : okG (a, c) = true
theorem Cut3.q (h : Cut3 a b c) : takeO (b, c) (takeL (a, b) P) = takeO (b, c) P := by
  unfold takeO takeL
  rw [if_pos h.o2, if_pos h.o1, if_pos h.o2, List.filter_filter]
  congr 1
  refine List.filter_congr fun x _ => ?_
  cases h1 : inG (b, c) x.k with
  | false => rfl
  | true => rw [inG_two h.b0 h.c0 h.bc x.k h1]; rfl
theorem Cut3.t (h : Cut3 a b c) : takeO (a, b) (takeL (b, c) P) = takeO (a, b) P := by
  unfold takeO takeL
  rw [if_pos h.o1, if_pos h.o2, if_pos h.o1, List.filter_filter]
  congr 1
  refine List.filter_congr fun x _ => ?_
  cases h1 : inG (a, b) x.k with
  | false => rfl
  | true =>
    cases h2 : inG (b, c) x.k with
    | false => rfl
    | true => rw [inG_two h.b0 h.c0 h.bc x.k h2] at h1; cases h1
theorem Cut3.xy (h : Cut3 a b c) : takeL (b, c) (takeL (a, b) P) = takeL (a, c) P ∧ takeL (a, b) (takeL (b, c) P) = takeL (a, c) P := by
  unfold takeL
  simp only [h.o1, h.o2, h.o3, if_true, List.filter_filter]
  constructor
  · refine List.filter_congr fun x _ => ?_
    rw [inG_all h.b0 h.c0 h.ab h.bc, Bool.not_or, Bool.and_comm]
  · refine List.filter_congr fun x _ => ?_
    rw [inG_all h.b0 h.c0 h.ab h.bc, Bool.not_or]
theorem perm_parts (f g : En → Bool) (h : ∀ x, g x = true → f x = false) : ∀ P : List En, (P.filter f ++ P.filter g).Perm (P.filter fun x => f x || g x)
  | [] => .nil
  | x :: P => by
    have ih := perm_parts f g h P
    cases hf : f x with
    | true =>
      have hg : g x = false := by
        cases hg : g x with
        | false => rfl
        | true => rw [h x hg] at hf; cases hf
      simp only [List.filter_cons, hf, hg, Bool.true_or, if_true, Bool.false_eq_true, if_false, List.cons_append]
      exact ih.cons x
    | false =>
      cases hg : g x with
      | false => simpa only [List.filter_cons, hf, hg, Bool.or_false, Bool.false_eq_true, if_false] using ih
      | true =>
        simp only [List.filter_cons, hf, hg, Bool.or_true, Bool.false_eq_true, if_true, if_false]
        exact List.perm_middle.trans (ih.cons x)
/-- Both, sorted, are their union. -/
theorem Cut3.all (h : Cut3 a b c) (ho : Ord P) : (takeO (a, b) P ++ takeO (b, c) P).mergeSort (fun x y => !efLt y x) = takeO (a, c) P := by
  have hs : (takeO (a, c) P).Pairwise (fun x y => efLt x y = true) := by
    unfold takeO
    rw [if_pos h.o3, List.pairwise_map]
    exact ord_filter ho _
  refine List.Perm.eq_of_pairwise (le := fun x y => (!efLt y x) = true) ?_ (List.pairwise_mergeSort efLe_trans efLe_total _) (hs.imp fun {x y} q => by rw [efLt_asymm q]; rfl) ?_
  · intro x y _ _ h1 h2
    rw [Bool.not_eq_true'] at h1 h2
    exact efLt_total x y h2 h1
  · refine (List.mergeSort_perm _ _).trans ?_
    unfold takeO
    rw [if_pos h.o1, if_pos h.o2, if_pos h.o3, ← List.map_append]
    refine List.Perm.map _ ?_
    have hp := perm_parts (fun x => inG (a, b) x.k) (fun x => inG (b, c) x.k) (fun x q => inG_two h.b0 h.c0 h.bc x.k q) P
    rw [show (fun x : En => inG (a, c) x.k) = fun x => inG (a, b) x.k || inG (b, c) x.k from funext fun x => inG_all h.b0 h.c0 h.ab h.bc x.k]
    exact hp
end
end Go.Proofs.YtkdfhackpmdgfaaGreatDoor
