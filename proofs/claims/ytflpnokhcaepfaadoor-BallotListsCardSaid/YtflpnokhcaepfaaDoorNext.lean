/- The program's Next. -/
import Derived.Test.YtflpnokhcaepfaaDoorOrd
namespace Go.Proofs.YtflpnokhcaepfaaDoor
open Go.RowKit
set_option linter.unusedSimpArgs false
set_option linter.unusedVariables false
set_option linter.unusedSectionVars false
set_option maxRecDepth 10000
theorem nxt_no {r n p : Int} (h : vld r n 7 = false ∨ p < 0 ∨ 7 ≤ p) : nxt r n p = (0, 0, 2) := by
  unfold nxt
  rw [if_neg]
  rintro ⟨h1, h2, h3⟩
  rcases h with h | h | h
  · rw [h1] at h; cases h
  · omega
  · omega
set_option maxHeartbeats 2000000 in
theorem next_no (r n p : Int) (w : World) (h : vld r n 7 = false ∨ p < 0 ∨ 7 ≤ p) : Calls Tryd.prog 12 #[.agg #[.int .i64 r, .int .i64 n], .int .i64 p] w fun e w' => e = .returned (.tuple #[.agg #[.int .i64 0, .int .i64 0], .int .i64 2]) ∧ Below w.heap.size w w' := by
  have hc : vld r n 7 = false ∨ (vld r n 7 = true ∧ p < 0) ∨ (vld r n 7 = true ∧ 0 ≤ p ∧ 7 ≤ p) := by
    rcases Bool.eq_false_or_eq_true (vld r n 7) with hv | hv
    · rcases h with h | h | h
      · rw [hv] at h; cases h
      · exact .inr (.inl ⟨hv, h⟩)
      · exact .inr (.inr ⟨hv, by omega, h⟩)
    · exact .inl hv
  clear h
  rcases hc with hv | ⟨hv, hp⟩ | ⟨hv, hp, hq⟩
  all_goals
    first | (have hck := Lib.hid (chkE_bad hv)) | (have hck := Lib.hid (chkE_ok hv))
    clear hv
    go_enter Tryd.func12, Tryd.ntmps12
    go_wp2_with (fail)
    refine (check_any r n 7 _).mono ?_
    rintro e w1 ⟨he, b1⟩
    rw [hck.out] at he
    subst he
    have g1 := (b1.block (w.heap.size + 1) (by simp)).trans (hpNewAt _ (by simp))
    have c0 := blkC g1 0; have c1 := blkC g1 1; have f1 := blkF g1
    have hb := Lib.hid ((((Below.refl _ w).alloc (Nat.le_refl _) (.cells #[.int .i64 r, .int .i64 n] 23)).alloc (by simp) (.cells #[.int .i64 0, .int .i64 0] 23)).trans (b1.mono (by simp; omega)))
    clear g1 b1
    go_wp2_with (fail)
    refine bodyPost_ret (by simp [results, Tryd.results12, go_sem, *]; try with_reducible rfl) rfl ?_
    exact ⟨rfl, by have hq := hb.out; repeat (first | exact hq | (refine Below.setCell ?_ (by simp) _))⟩
set_option maxHeartbeats 4000000 in
theorem next_any (r n p : Int) (w : World) : Calls Tryd.prog 12 #[.agg #[.int .i64 r, .int .i64 n], .int .i64 p] w fun e w' => e = .returned (.tuple #[.agg #[.int .i64 (nxt r n p).1, .int .i64 (nxt r n p).2.1], .int .i64 (nxt r n p).2.2]) ∧ Below w.heap.size w w' := by
  by_cases hno : vld r n 7 = false ∨ p < 0 ∨ 7 ≤ p
  · rw [nxt_no hno]; exact next_no r n p w hno
  have hv : vld r n 7 = true := by
    rcases Bool.eq_false_or_eq_true (vld r n 7) with hv | hv
    · exact hv
    · exact absurd (.inl hv) hno
  have hp : 0 ≤ p ∧ p < 7 := ⟨by omega, by omega⟩
  have hv' := (vld_iff r n 7).1 hv
  have hck := Lib.hid (chkE_ok hv)
  have hcase : (r = 0 ∧ nxt r n p = (1, p, 0)) ∨ (((r == 0) = false ∧ 1 ≤ r) ∧ p ≤ n ∧ r + 1 ≤ 1073741824 ∧ nxt r n p = (r + 1, p, 0)) ∨ (((r == 0) = false ∧ 1 ≤ r) ∧ p ≤ n ∧ 1073741824 < r + 1 ∧ nxt r n p = (0, 0, 7)) ∨ (((r == 0) = false ∧ 1 ≤ r) ∧ n < p ∧ r ≤ 1073741824 ∧ nxt r n p = (r, p, 0)) := by
    unfold nxt
    rw [if_pos ⟨hv, hp⟩]
    by_cases h0 : r = 0
    · left
      have e : nr r n p = r + 1 := if_pos (.inl h0)
      rw [e, if_pos (by omega)]
      exact ⟨h0, by rw [h0]; rfl⟩
    · have hb0 : (r == 0) = false := by simpa using h0
      right
      by_cases hn : p ≤ n
      · have e : nr r n p = r + 1 := if_pos (.inr hn)
        rw [e]
        by_cases hm : r + 1 ≤ 1073741824
        · left; rw [if_pos hm]; exact ⟨⟨hb0, by omega⟩, hn, hm, rfl⟩
        · right; left; rw [if_neg hm]; exact ⟨⟨hb0, by omega⟩, hn, by omega, rfl⟩
      · have e : nr r n p = r := if_neg (by omega)
        rw [e, if_pos (by omega)]
        right; right; exact ⟨⟨hb0, by omega⟩, by omega, by omega, rfl⟩
  have h64 : r ≤ 1073741824 := by omega
  clear hno hv hv'
  obtain ⟨p0, p7⟩ := hp
  rcases hcase with ⟨rfl, hx⟩ | ⟨⟨h0, h1⟩, h2, h3, hx⟩ | ⟨⟨h0, h1⟩, h2, h3, hx⟩ | ⟨⟨h0, h1⟩, h2, h3, hx⟩
  all_goals
    rw [hx]
    clear hx
    go_enter Tryd.func12, Tryd.ntmps12
    go_wp2_with (fail)
    refine (check_any _ n 7 _).mono ?_
    rintro e w1 ⟨he, b1⟩
    rw [hck.out] at he
    subst he
    have g1 := (b1.block (w.heap.size + 1) (by simp)).trans (hpNewAt _ (by simp))
    have c0 := blkC g1 0; have c1 := blkC g1 1; have f1 := blkF g1
    have g0 := (b1.block (w.heap.size) (by simp; omega)).trans ((hpOld _ (by simp)).trans (hpNew _ _))
    have d0 := blkC g0 0; have d1 := blkC g0 1; have f0 := blkF g0
    have hb := Lib.hid ((((Below.refl _ w).alloc (Nat.le_refl _) (.cells #[.int .i64 _, .int .i64 n] 23)).alloc (by simp) (.cells #[.int .i64 0, .int .i64 0] 23)).trans (b1.mono (by simp; omega)))
    clear g1 g0 b1
    go_wp2_with (fail)
    refine bodyPost_ret (by simp [results, Tryd.results12, go_sem, *]; try with_reducible rfl) rfl ?_
    exact ⟨rfl, by have hq := hb.out; repeat (first | exact hq | (refine Below.setCell ?_ (by simp) _))⟩
end Go.Proofs.YtflpnokhcaepfaaDoor
