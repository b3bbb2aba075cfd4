/- The order of ballots, in plain Lean; three ballots. -/
import Derived.Test.YtflpnokhcaepfaaDoorMax
import Derived.Test.YtflpnokhcaepfaaDoorLaws
namespace Go.Proofs.YtflpnokhcaepfaaDoor
open Go.RowKit
set_option linter.unusedSimpArgs false
set_option linter.unusedVariables false
set_option linter.unusedSectionVars false
set_option maxRecDepth 10000
theorem bs_three {W : World} (r n s m t u : Int) : BS (W.alloc (.cells #[.int .i64 r, .int .i64 n, .int .i64 s, .int .i64 m, .int .i64 t, .int .i64 u] 23)) (some ⟨W.heap.size, 0, none⟩) 3 [(r, n), (s, m), (t, u)] := by
  refine ⟨rfl, fun _ => ⟨W.heap.size, 0, rfl, by simp, fun i x hx j v hv => ?_⟩⟩
  have hc := fun o => blkC (hpNew W (.cells #[.int .i64 r, .int .i64 n, .int .i64 s, .int .i64 m, .int .i64 t, .int .i64 u] 23)) o
  rcases i with _ | _ | _ | i
  · simp at hx; subst hx
    rcases j with _ | _ | j
    · simp [benc] at hv; subst hv; exact hc 0
    · simp [benc] at hv; subst hv; exact hc 1
    · simp [benc] at hv
  · simp at hx; subst hx
    rcases j with _ | _ | j
    · simp [benc] at hv; subst hv; exact hc 2
    · simp [benc] at hv; subst hv; exact hc 3
    · simp [benc] at hv
  · simp at hx; subst hx
    rcases j with _ | _ | j
    · simp [benc] at hv; subst hv; exact hc 4
    · simp [benc] at hv; subst hv; exact hc 5
    · simp [benc] at hv
  · simp at hx
theorem ord_three (r n s m : Int) : (ordI r n s m = -1 ∧ (r < s ∨ (r = s ∧ n < m))) ∨ (ordI r n s m = 0 ∧ r = s ∧ n = m) ∨ (ordI r n s m = 1 ∧ (s < r ∨ (r = s ∧ m < n))) := by
  unfold ordI cmpI
  by_cases h : r = s
  · rw [if_pos h]
    rcases Int.lt_trichotomy n m with q | q | q
    · left; rw [if_pos q]; exact ⟨rfl, .inr ⟨h, q⟩⟩
    · right; left; rw [if_neg (by omega), if_neg (by omega)]; exact ⟨rfl, h, q⟩
    · right; right; rw [if_neg (by omega), if_pos q]; exact ⟨rfl, .inr ⟨h, q⟩⟩
  · rw [if_neg h]
    rcases Int.lt_trichotomy r s with q | q | q
    · left; rw [if_pos q]; exact ⟨rfl, .inl q⟩
    · exact absurd q h
    · right; right; rw [if_neg (by omega), if_pos q]; exact ⟨rfl, .inl q⟩
theorem ord_ge {r n s m : Int} (h : ¬ (r < s ∨ (r = s ∧ n < m))) : 0 ≤ ordI r n s m := by
  rcases ord_three r n s m with ⟨e, q⟩ | ⟨e, q⟩ | ⟨e, q⟩ <;> omega
/-- The greatest of three. -/
theorem mx_three (r n s m t u : Int) : ∃ M1 M2, mx [(r, n), (s, m), (t, u)] = (M1, M2) ∧ 0 ≤ ordI M1 M2 r n ∧ 0 ≤ ordI M1 M2 s m ∧ 0 ≤ ordI M1 M2 t u ∧ ((M1 = r ∧ M2 = n) ∨ (M1 = s ∧ M2 = m) ∨ (M1 = t ∧ M2 = u)) := by
  have hs : ∀ (o x : Int × Int), ((o.1 < x.1 ∨ (o.1 = x.1 ∧ o.2 < x.2)) ∧ mxStep o x = x) ∨ (¬ (o.1 < x.1 ∨ (o.1 = x.1 ∧ o.2 < x.2)) ∧ mxStep o x = o) := fun o x => by
    unfold mxStep
    rcases ord_three x.1 x.2 o.1 o.2 with ⟨e, q⟩ | ⟨e, q⟩ | ⟨e, q⟩
    · right; rw [e, if_neg (by omega)]; exact ⟨by omega, rfl⟩
    · right; rw [e, if_neg (by omega)]; exact ⟨by omega, rfl⟩
    · left; rw [e, if_pos (by omega)]; exact ⟨by omega, rfl⟩
  have e : mx [(r, n), (s, m), (t, u)] = mxStep (mxStep (r, n) (s, m)) (t, u) := rfl
  rw [e]
  rcases hs (r, n) (s, m) with ⟨h1, e1⟩ | ⟨h1, e1⟩
  · rw [e1]
    rcases hs (s, m) (t, u) with ⟨h2, e2⟩ | ⟨h2, e2⟩
    · simp only at h1 h2
      rw [e2]; exact ⟨t, u, rfl, ord_ge (by omega), ord_ge (by omega), ord_ge (by omega), .inr (.inr ⟨rfl, rfl⟩)⟩
    · simp only at h1 h2
      rw [e2]; exact ⟨s, m, rfl, ord_ge (by omega), ord_ge (by omega), ord_ge (by omega), .inr (.inl ⟨rfl, rfl⟩)⟩
  · rw [e1]
    rcases hs (r, n) (t, u) with ⟨h2, e2⟩ | ⟨h2, e2⟩
    · simp only at h1 h2
      rw [e2]; exact ⟨t, u, rfl, ord_ge (by omega), ord_ge (by omega), ord_ge (by omega), .inr (.inr ⟨rfl, rfl⟩)⟩
    · simp only at h1 h2
      rw [e2]; exact ⟨r, n, rfl, ord_ge (by omega), ord_ge (by omega), ord_ge (by omega), .inl ⟨rfl, rfl⟩⟩
end Go.Proofs.YtflpnokhcaepfaaDoor
