/- FromNumber of the program and of the reference. -/
import Derived.Test.YtflpnokhcaepfaaDoorNum
import Derived.RegionTactic
import Derived.ChangeAlike
namespace Go.Proofs.YtflpnokhcaepfaaDoor
open Go.RowKit
set_option linter.unusedSimpArgs false
set_option linter.unusedVariables false
set_option linter.unusedSectionVars false
set_option maxRecDepth 10000
theorem frm_k {q k : Int} (h : k < 1 ∨ 7 < k) : frm q k = (0, 0, 2) := by unfold frm; rw [if_neg (by omega)]
theorem frm_q {q k : Int} (h : 1 ≤ k ∧ k ≤ 7) (hq : q < 0 ∨ 1073741824 * k < q) : frm q k = (0, 0, 3) := by unfold frm; rw [if_pos h, if_neg (by omega)]
theorem frm_0 {k : Int} (h : 1 ≤ k ∧ k ≤ 7) : frm 0 k = (0, 0, 0) := by unfold frm; rw [if_pos h, if_pos ⟨by omega, by omega⟩, if_pos rfl]
theorem frm_at {q k : Int} (h : 1 ≤ k ∧ k ≤ 7) (h1 : 1 ≤ q) (h2 : q ≤ 1073741824 * k) : frm q k = ((q - 1) / k + 1, (q - 1) % k, 0) := by unfold frm; rw [if_pos h, if_pos ⟨by omega, h2⟩, if_neg (by omega)]
set_option maxHeartbeats 8000000 in
theorem frm_any (q k : Int) (hq0 : -9223372036854775808 ≤ q) (hq1 : q ≤ 9223372036854775807) (w : World) : Calls Tryd.prog 25 #[.int .i64 q, .int .i64 k] w fun e w' => e = .returned (.tuple #[.agg #[.int .i64 (frm q k).1, .int .i64 (frm q k).2.1], .int .i64 (frm q k).2.2]) ∧ Below w.heap.size w w' := by
  by_cases hk : k < 1 ∨ 7 < k
  · rw [frm_k hk]
    have hk' : k < 1 ∨ (1 ≤ k ∧ 7 < k) := by omega
    clear hk
    rcases hk' with hk | ⟨hk, hk7⟩
    all_goals
      go_enter Tryd.func25, Tryd.ntmps25
      go_wp2_with (fail)
      refine bodyPost_ret (by simp [results, Tryd.results25, go_sem, *]; try with_reducible rfl) rfl ?_
      exact ⟨by simp, by repeat (first | exact Below.refl _ _ | (refine Below.drew ?_) | (refine Below.setCell ?_ (by simp) _) | (refine Below.alloc ?_ (by simp) _))⟩
  have hk1 : 1 ≤ k ∧ k ≤ 7 := by omega
  by_cases hq : q < 0 ∨ 1073741824 * k < q
  · rw [frm_q hk1 hq]
    have hkk := k7 hk1
    have hq' : q < 0 ∨ (0 ≤ q ∧ 1073741824 * k < q) := by omega
    clear hk hk1 hq
    rcases hq' with hq | ⟨hq, hqk⟩
    all_goals
      rcases hkk with rfl | rfl | rfl | rfl | rfl | rfl | rfl
    all_goals
      go_enter Tryd.func25, Tryd.ntmps25
      go_wp2_with (fail)
      refine bodyPost_ret (by simp [results, Tryd.results25, go_sem, *]; try with_reducible rfl) rfl ?_
      exact ⟨by simp, by repeat (first | exact Below.refl _ _ | (refine Below.drew ?_) | (refine Below.setCell ?_ (by simp) _) | (refine Below.alloc ?_ (by simp) _))⟩
  by_cases h0 : q = 0
  · obtain rfl := h0
    rw [frm_0 hk1]
    have hkk := k7 hk1
    clear hk hk1 hq
    rcases hkk with rfl | rfl | rfl | rfl | rfl | rfl | rfl
    all_goals
      go_enter Tryd.func25, Tryd.ntmps25
      go_wp2_with (fail)
      refine bodyPost_ret (by simp [results, Tryd.results25, go_sem, *]; try with_reducible rfl) rfl ?_
      exact ⟨by simp, by repeat (first | exact Below.refl _ _ | (refine Below.drew ?_) | (refine Below.setCell ?_ (by simp) _) | (refine Below.alloc ?_ (by simp) _))⟩
  · rw [frm_at hk1 (by omega) (by omega)]
    have h1 : 1 ≤ q := by omega
    have h2 : q ≤ 1073741824 * k := by omega
    have h00 : (q == 0) = false := by simpa using h0
    have hkk := k7 hk1
    clear hk hk1 hq h0
    rcases hkk with rfl | rfl | rfl | rfl | rfl | rfl | rfl
    all_goals
      go_enter Tryd.func25, Tryd.ntmps25
      go_wp2_with (fail)
      go_region
    all_goals
      go_wp2_with (fail)
      refine bodyPost_ret (by simp [results, Tryd.results25, go_sem, *]; try with_reducible rfl) rfl ?_
      exact ⟨by simp, by repeat (first | exact Below.refl _ _ | (refine Below.drew ?_) | (refine Below.setCell ?_ (by simp) _) | (refine Below.alloc ?_ (by simp) _))⟩
set_option maxHeartbeats 8000000 in
theorem rfrm_any (q k : Int) (hq0 : -9223372036854775808 ≤ q) (hq1 : q ≤ 9223372036854775807) (w : World) : Calls Tryd.prog 26 #[.int .i64 q, .int .i64 k] w fun e w' => e = .returned (.tuple #[.agg #[.int .i64 (frm q k).1, .int .i64 (frm q k).2.1], .int .i64 (frm q k).2.2]) ∧ Below w.heap.size w w' := by
  by_cases hk : k < 1 ∨ 7 < k
  · rw [frm_k hk]
    have hk' : k < 1 ∨ (1 ≤ k ∧ 7 < k) := by omega
    clear hk
    rcases hk' with hk | ⟨hk, hk7⟩
    all_goals
      go_enter Tryd.func26, Tryd.ntmps26
      go_wp2_with (fail)
      refine bodyPost_ret (by simp [results, Tryd.results26, go_sem, *]; try with_reducible rfl) rfl ?_
      exact ⟨by simp, by repeat (first | exact Below.refl _ _ | (refine Below.drew ?_) | (refine Below.setCell ?_ (by simp) _) | (refine Below.alloc ?_ (by simp) _))⟩
  have hk1 : 1 ≤ k ∧ k ≤ 7 := by omega
  by_cases hq : q < 0 ∨ 1073741824 * k < q
  · rw [frm_q hk1 hq]
    have hkk := k7 hk1
    have hq' : q < 0 ∨ (0 ≤ q ∧ 1073741824 * k < q) := by omega
    clear hk hk1 hq
    rcases hq' with hq | ⟨hq, hqk⟩
    all_goals
      rcases hkk with rfl | rfl | rfl | rfl | rfl | rfl | rfl
    all_goals
      go_enter Tryd.func26, Tryd.ntmps26
      go_wp2_with (fail)
      refine bodyPost_ret (by simp [results, Tryd.results26, go_sem, *]; try with_reducible rfl) rfl ?_
      exact ⟨by simp, by repeat (first | exact Below.refl _ _ | (refine Below.drew ?_) | (refine Below.setCell ?_ (by simp) _) | (refine Below.alloc ?_ (by simp) _))⟩
  by_cases h0 : q = 0
  · obtain rfl := h0
    rw [frm_0 hk1]
    have hkk := k7 hk1
    clear hk hk1 hq
    rcases hkk with rfl | rfl | rfl | rfl | rfl | rfl | rfl
    all_goals
      go_enter Tryd.func26, Tryd.ntmps26
      go_wp2_with (fail)
      refine bodyPost_ret (by simp [results, Tryd.results26, go_sem, *]; try with_reducible rfl) rfl ?_
      exact ⟨by simp, by repeat (first | exact Below.refl _ _ | (refine Below.drew ?_) | (refine Below.setCell ?_ (by simp) _) | (refine Below.alloc ?_ (by simp) _))⟩
  · rw [frm_at hk1 (by omega) (by omega)]
    have h1 : 1 ≤ q := by omega
    have h2 : q ≤ 1073741824 * k := by omega
    have h00 : (q == 0) = false := by simpa using h0
    have hkk := k7 hk1
    clear hk hk1 hq h0
    rcases hkk with rfl | rfl | rfl | rfl | rfl | rfl | rfl
    all_goals
      go_enter Tryd.func26, Tryd.ntmps26
      go_wp2_with (fail)
      go_region
    all_goals
      go_wp2_with (fail)
      refine bodyPost_ret (by simp [results, Tryd.results26, go_sem, *]; try with_reducible rfl) rfl ?_
      exact ⟨by simp, by repeat (first | exact Below.refl _ _ | (refine Below.drew ?_) | (refine Below.setCell ?_ (by simp) _) | (refine Below.alloc ?_ (by simp) _))⟩
end Go.Proofs.YtflpnokhcaepfaaDoor
