/- Ballots of the laws' own make. -/
import Derived.Test.YtflpnokhcaepfaaDoorNum
namespace Go.Proofs.YtflpnokhcaepfaaDoor
open Go.RowKit
set_option linter.unusedSimpArgs false
set_option linter.unusedVariables false
set_option linter.unusedSectionVars false
set_option maxRecDepth 10000
def mdR (r : Int) : Int := r % 1073741825
def mdN (r d n : Int) : Int := if mdR r = 0 then 0 else d % n
theorem md_vld (r d n : Int) (hr : 0 ≤ r) (hd : 0 ≤ d) (hn : 1 ≤ n ∧ n ≤ 7) : vld (mdR r) (mdN r d n) n = true := by
  rw [vld_iff]
  unfold mdN mdR
  have h1 := Int.emod_nonneg d (show n ≠ 0 by omega)
  have h2 := Int.emod_lt_of_pos d (show 0 < n by omega)
  refine ⟨hn.1, hn.2, ?_⟩
  by_cases h0 : r % 1073741825 = 0
  · left; exact ⟨h0, if_pos h0⟩
  · right; rw [if_neg h0]; omega
set_option maxHeartbeats 4000000 in
theorem made_any (r d n : Int) (hr : 0 ≤ r ∧ r ≤ 4294967295) (hd : 0 ≤ d ∧ d ≤ 255) (hn : 1 ≤ n ∧ n ≤ 7) (w : World) : Calls Tryd.prog 27 #[.int .u32 r, .int .u8 d, .int .i64 n] w fun e w' => e = .returned (.agg #[.int .i64 (mdR r), .int .i64 (mdN r d n)]) ∧ Below w.heap.size w w' := by
  have hk := k7 hn
  have hm : 0 ≤ r % 1073741825 ∧ r % 1073741825 < 1073741825 := by omega
  obtain ⟨hr0, hr1⟩ := hr
  obtain ⟨hd0, hd1⟩ := hd
  by_cases h0 : mdR r = 0
  · have hN : mdN r d n = 0 := if_pos h0
    rw [hN, h0]
    have h0 : (r % 1073741825 == 0) = true := by simpa [mdR] using h0
    clear hN hk hn
    go_enter Tryd.func27, Tryd.ntmps27
    go_wp2_with (fail)
    all_goals
      refine bodyPost_ret (by simp [results, Tryd.results27, go_sem, *]; try with_reducible rfl) rfl ?_
      exact ⟨by simp, by repeat (first | exact Below.refl _ _ | (refine Below.setCell ?_ (by simp) _) | (refine Below.alloc ?_ (by simp) _))⟩
  · have hN : mdN r d n = d % n := if_neg h0
    rw [hN]
    unfold mdR at h0 ⊢
    have h0 : (r % 1073741825 == 0) = false := by simpa using h0
    clear hN hn
    rcases hk with rfl | rfl | rfl | rfl | rfl | rfl | rfl
    all_goals
      go_enter Tryd.func27, Tryd.ntmps27
      go_wp2_with (fail)
      refine bodyPost_ret (by simp [results, Tryd.results27, go_sem, *]; try with_reducible rfl) rfl ?_
      exact ⟨by simp, by repeat (first | exact Below.refl _ _ | (refine Below.setCell ?_ (by simp) _) | (refine Below.alloc ?_ (by simp) _))⟩
end Go.Proofs.YtflpnokhcaepfaaDoor
