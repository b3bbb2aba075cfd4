/- What the laws of the chapter say of numbers, in plain Lean. -/
import Derived.Test.YtflpnokhcaepfaaDoorNum
import Derived.Test.YtflpnokhcaepfaaDoorFrm
import Derived.Test.YtflpnokhcaepfaaDoorRefN
namespace Go.Proofs.YtflpnokhcaepfaaDoor
set_option linter.unusedSimpArgs false
set_option linter.unusedVariables false
theorem frm_num {r n k : Int} (h : vld r n k = true) : ∃ x, num r n k = (x, 0) ∧ frm x k = (r, n, 0) ∧ 0 ≤ x ∧ x ≤ 1073741824 * k ∧ (r = 0 → x = 0) ∧ (1 ≤ r → x = (r - 1) * k + n + 1) := by
  have hv := (vld_iff r n k).1 h
  by_cases h0 : r = 0
  · obtain rfl := h0
    obtain rfl : n = 0 := by omega
    exact ⟨0, num_zero h, frm_0 ⟨hv.1, hv.2.1⟩, by omega, by omega, fun _ => rfl, fun q => by omega⟩
  · refine ⟨_, num_at h (by omega), ?_⟩
    have hk := k7 ⟨hv.1, hv.2.1⟩
    have h1 : 1 ≤ (r - 1) * k + n + 1 ∧ (r - 1) * k + n + 1 ≤ 1073741824 * k := by
      rcases hk with rfl | rfl | rfl | rfl | rfl | rfl | rfl <;> omega
    refine ⟨?_, by omega, h1.2, fun q => absurd q h0, fun _ => rfl⟩
    rw [frm_at ⟨hv.1, hv.2.1⟩ h1.1 h1.2]
    rcases hk with rfl | rfl | rfl | rfl | rfl | rfl | rfl <;> (refine Prod.ext ?_ (Prod.ext ?_ rfl) <;> simp only <;> omega)
theorem num_frm {q k : Int} (hk : 1 ≤ k ∧ k ≤ 7) (h0 : 0 ≤ q) (h1 : q ≤ 1073741824 * k) : ∃ r n, frm q k = (r, n, 0) ∧ vld r n k = true ∧ num r n k = (q, 0) := by
  by_cases hq : q = 0
  · obtain rfl := hq
    have hv : vld 0 0 k = true := (vld_iff _ _ _).2 (by omega)
    exact ⟨0, 0, frm_0 hk, hv, num_zero hv⟩
  · refine ⟨_, _, frm_at hk (by omega) h1, ?_, ?_⟩
    · rw [vld_iff]
      have hk7 := k7 hk
      rcases hk7 with rfl | rfl | rfl | rfl | rfl | rfl | rfl <;> omega
    · have hv : vld ((q - 1) / k + 1) ((q - 1) % k) k = true := by
        rw [vld_iff]
        have hk7 := k7 hk
        rcases hk7 with rfl | rfl | rfl | rfl | rfl | rfl | rfl <;> omega
      rw [num_at hv (by have := (vld_iff _ _ _).1 hv; have hk7 := k7 hk; rcases hk7 with rfl | rfl | rfl | rfl | rfl | rfl | rfl <;> omega)]
      congr 1
      have hk7 := k7 hk
      rcases hk7 with rfl | rfl | rfl | rfl | rfl | rfl | rfl <;> omega
/-- Two valid ballots: their order is that of their numbers. -/
theorem ord_num {r n s m k x y : Int} (h : vld r n k = true) (g : vld s m k = true) (hx : num r n k = (x, 0)) (hy : num s m k = (y, 0)) :
    (r = s ∧ n = m ∧ x = y) ∨ (ordI r n s m = -1 ∧ x < y ∧ ((r == s) = false ∨ (r = s ∧ (n == m) = false))) ∨ (ordI r n s m = 1 ∧ y < x ∧ ((r == s) = false ∨ (r = s ∧ (n == m) = false))) := by
  obtain ⟨x', e1, _, x0, _, xz, xa⟩ := frm_num h
  obtain ⟨y', e2, _, y0, _, yz, ya⟩ := frm_num g
  rw [hx] at e1; rw [hy] at e2
  obtain rfl : x = x' := (Prod.mk.inj e1).1
  obtain rfl : y = y' := (Prod.mk.inj e2).1
  have hv := (vld_iff r n k).1 h
  have gv := (vld_iff s m k).1 g
  have hk := k7 ⟨hv.1, hv.2.1⟩
  have hr : r = 0 ∨ 1 ≤ r := by omega
  have hs : s = 0 ∨ 1 ≤ s := by omega
  rcases Int.lt_trichotomy r s with hrs | hrs | hrs
  · right; left
    refine ⟨by unfold ordI cmpI; rw [if_neg (by omega), if_pos hrs], ?_, .inl (by simp; omega)⟩
    have hs1 : 1 ≤ s := by omega
    have := ya hs1
    rcases hr with hr | hr
    · have := xz hr
      rcases hk with rfl | rfl | rfl | rfl | rfl | rfl | rfl <;> omega
    · have := xa hr
      rcases hk with rfl | rfl | rfl | rfl | rfl | rfl | rfl <;> omega
  · rcases Int.lt_trichotomy n m with hnm | hnm | hnm
    · right; left
      refine ⟨by unfold ordI cmpI; rw [if_pos hrs, if_pos hnm], ?_, .inr ⟨hrs, by simp; omega⟩⟩
      have := ya (by omega); have := xa (by omega)
      subst hrs
      omega
    · left
      refine ⟨hrs, hnm, ?_⟩
      subst hrs hnm
      rw [hx] at hy
      exact (Prod.mk.inj hy).1
    · right; right
      refine ⟨by unfold ordI cmpI; rw [if_pos hrs, if_neg (by omega), if_pos hnm], ?_, .inr ⟨hrs, by simp; omega⟩⟩
      have := ya (by omega); have := xa (by omega)
      subst hrs
      omega
  · right; right
    refine ⟨by unfold ordI cmpI; rw [if_neg (by omega), if_neg (by omega), if_pos hrs], ?_, .inl (by simp; omega)⟩
    have hr1 : 1 ≤ r := by omega
    have := xa hr1
    rcases hs with hs | hs
    · have := yz hs
      rcases hk with rfl | rfl | rfl | rfl | rfl | rfl | rfl <;> omega
    · have := ya hs
      rcases hk with rfl | rfl | rfl | rfl | rfl | rfl | rfl <;> omega
theorem ord_self (r n : Int) : ordI r n r n = 0 := by unfold ordI cmpI; rw [if_pos rfl, if_neg (by omega), if_neg (by omega)]
theorem ord_lt {r n s m : Int} : ordI r n s m < 0 ↔ (r < s ∨ (r = s ∧ n < m)) := by
  unfold ordI cmpI
  by_cases h : r = s
  · rw [if_pos h]; split
    · omega
    · split <;> omega
  · rw [if_neg h]; split
    · omega
    · split <;> omega
/-- The next ballot of a node: it is behind, and none of the node lies between. -/
theorem nxt_law {r n p : Int} (hv : vld r n 7 = true) (hp : 0 ≤ p ∧ p < 7) :
    (nxt r n p = (0, 0, 7) ∧ r = 1073741824 ∧ p ≤ n) ∨
    (∃ y, nxt r n p = (y, p, 0) ∧ 1 ≤ y ∧ y ≤ 1073741824 ∧ vld y p 7 = true ∧ ordI r n y p = -1 ∧ ∀ b, 1 ≤ b → ordI r n b p < 0 → ¬ ordI b p y p < 0) := by
  have hv' := (vld_iff r n 7).1 hv
  have ho : ∀ y, (r < y ∨ (r = y ∧ n < p)) → ordI r n y p = -1 := fun y h => by
    unfold ordI cmpI
    by_cases e : r = y
    · rw [if_pos e, if_pos (by omega)]
    · rw [if_neg e, if_pos (by omega)]
  have hB : ∀ y, (∀ b, 1 ≤ b → (r < b ∨ (r = b ∧ n < p)) → ¬ b < y) → ∀ b, 1 ≤ b → ordI r n b p < 0 → ¬ ordI b p y p < 0 := fun y h b hb h1 h2 => by
    rw [ord_lt] at h1 h2
    have := h b hb h1
    omega
  rcases nxt_cases hv hp with ⟨h0, h1, hx⟩ | ⟨h1, h2, h3, hx⟩ | ⟨h1, h2, h3, h4, hx⟩ | ⟨h1, h2, h3, hx⟩
  · right; exact ⟨1, hx, by omega, by omega, (vld_iff _ _ _).2 (by omega), ho _ (by omega), hB _ (fun b _ _ => by omega)⟩
  · right; exact ⟨r + 1, hx, by omega, by omega, (vld_iff _ _ _).2 (by omega), ho _ (by omega), hB _ (fun b _ _ => by omega)⟩
  · left; exact ⟨hx, by omega, h2⟩
  · right; exact ⟨r, hx, by omega, by omega, (vld_iff _ _ _).2 (by omega), ho _ (by omega), hB _ (fun b _ _ => by omega)⟩
end Go.Proofs.YtflpnokhcaepfaaDoor
