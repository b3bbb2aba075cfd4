/- A counter of parts; the law's size; the outcomes of Do, Undo and Free, case by case. -/
import Derived.Test.YtmkggjhlacajaaaWorks
namespace Go.Proofs.Ytmkggjhlacajaaa
open Go.RowKit
set_option linter.unusedSimpArgs false
set_option linter.unusedVariables false
set_option maxHeartbeats 2000000 in
theorem made_any (v up dn be ov : Int) (l1 : -2147483648 ≤ v) (l2 : v ≤ 2147483647) (l3 : 0 ≤ up) (l4 : up ≤ 65535) (l5 : 0 ≤ dn) (l6 : dn ≤ 65535) (l7 : 0 ≤ be) (l8 : be ≤ 65535) (l9 : 0 ≤ ov) (l10 : ov ≤ 65535) (w : World) :
    Calls Try.prog 15 #[.agg #[.int .i32 v, .int .u16 up, .int .u16 dn, .int .u16 be, .int .u16 ov]] w fun e w' => e = .returned (.agg #[.int .i64 v, .int .i64 up, .int .i64 dn, .int .i64 (v - up - be), .int .i64 (v + dn + ov)]) ∧ Below w.heap.size w w' := by
  go_enter Try.func15, Try.ntmps15
  go_wp2_with (fail)
  go_quiet (fail)
  all_goals go_wp2
  all_goals (try simp only [Exit.inBlock, Exit.then])
  all_goals refine bodyPost_ret (by simp [results, Try.results15, go_sem, *]; try with_reducible rfl) rfl ?_
  all_goals exact ⟨rfl, (by repeat (first | (with_reducible assumption) | (with_reducible exact Below.refl _ _) | (with_reducible refine below_drewN ?_ _) | (with_reducible refine Below.drew ?_) | ((with_reducible refine Below.alloc ?_ ?_ _); rotate_left; · (first | (with_reducible exact Nat.le_refl _) | (with_reducible assumption) | omega | (simp only [World.size_alloc, World.size_setCell, World.size_drew]; omega) | (simp; omega) | (simp; done))) | ((with_reducible refine Below.setCell ?_ ?_ _); rotate_left; · (first | (with_reducible exact Nat.le_refl _) | (with_reducible assumption) | omega | (simp only [World.size_alloc, World.size_setCell, World.size_drew]; omega) | (simp; omega) | (simp; done)))))⟩

set_option maxHeartbeats 400000 in
theorem lsize_n (d : Int) (h : d < 0) (h1 : -9223372036854775808 < d) (h2 : d ≤ 9223372036854775807) (w : World) :
    Calls Try.prog 19 #[.int .i64 d] w fun e w' => e = .returned (.int .i64 (-d)) ∧ w = w' := by
  go_enter Try.func19, Try.ntmps19
  go_wp2
  all_goals go_ret
  all_goals exact ⟨ret_int (by omega), rfl⟩
set_option maxHeartbeats 400000 in
theorem lsize_p (d : Int) (h : 0 ≤ d) (h1 : -9223372036854775808 < d) (h2 : d ≤ 9223372036854775807) (w : World) :
    Calls Try.prog 19 #[.int .i64 d] w fun e w' => e = .returned (.int .i64 (d)) ∧ w = w' := by
  go_enter Try.func19, Try.ntmps19
  go_wp2
  all_goals go_ret
  all_goals exact ⟨ret_int (by omega), rfl⟩
theorem doR_pok {v up dn lo hi d : Int} (hc : ckOK v up dn lo hi = true) (hd : inNum d = true) (h0 : 0 ≤ d) (h : v + dn + d ≤ hi ∧ up + d ≤ 1152921504606846976) : doR v up dn lo hi d = .ok (v + d) (up + d) dn lo hi := by
  unfold doR; rw [if_pos ⟨hc, hd⟩, if_pos (by omega), if_neg (by omega)]
theorem doR_pbad {v up dn lo hi d : Int} (hc : ckOK v up dn lo hi = true) (hd : inNum d = true) (h0 : 0 ≤ d) (h : hi < v + dn + d ∨ 1152921504606846976 < up + d) : doR v up dn lo hi d = .bad 7 := by
  unfold doR; rw [if_pos ⟨hc, hd⟩, if_pos (by omega), if_pos (by omega)]
theorem doR_nok {v up dn lo hi d : Int} (hc : ckOK v up dn lo hi = true) (hd : inNum d = true) (h0 : d < 0) (h : lo ≤ v - up + d ∧ dn - d ≤ 1152921504606846976) : doR v up dn lo hi d = .ok (v + d) up (dn - d) lo hi := by
  unfold doR; rw [if_pos ⟨hc, hd⟩, if_neg (by omega), if_neg (by omega)]
theorem doR_nbad {v up dn lo hi d : Int} (hc : ckOK v up dn lo hi = true) (hd : inNum d = true) (h0 : d < 0) (h : v - up + d < lo ∨ 1152921504606846976 < dn - d) : doR v up dn lo hi d = .bad 7 := by
  unfold doR; rw [if_pos ⟨hc, hd⟩, if_neg (by omega), if_pos (by omega)]
theorem undoR_pok {v up dn lo hi d : Int} (hc : ckOK v up dn lo hi = true) (hd : inNum d = true) (h0 : 0 ≤ d) (h : d ≤ up) : undoR v up dn lo hi d = .ok (v - d) (up - d) dn lo hi := by
  unfold undoR; rw [if_pos ⟨hc, hd⟩, if_pos (by omega), if_neg (by omega)]
theorem undoR_pbad {v up dn lo hi d : Int} (hc : ckOK v up dn lo hi = true) (hd : inNum d = true) (h0 : 0 ≤ d) (h : up < d) : undoR v up dn lo hi d = .bad 9 := by
  unfold undoR; rw [if_pos ⟨hc, hd⟩, if_pos (by omega), if_pos (by omega)]
theorem undoR_nok {v up dn lo hi d : Int} (hc : ckOK v up dn lo hi = true) (hd : inNum d = true) (h0 : d < 0) (h : -d ≤ dn) : undoR v up dn lo hi d = .ok (v - d) up (dn + d) lo hi := by
  unfold undoR; rw [if_pos ⟨hc, hd⟩, if_neg (by omega), if_neg (by omega)]
theorem undoR_nbad {v up dn lo hi d : Int} (hc : ckOK v up dn lo hi = true) (hd : inNum d = true) (h0 : d < 0) (h : dn < -d) : undoR v up dn lo hi d = .bad 9 := by
  unfold undoR; rw [if_pos ⟨hc, hd⟩, if_neg (by omega), if_pos (by omega)]
theorem freeR_pok {v up dn lo hi d : Int} (hc : ckOK v up dn lo hi = true) (hd : inNum d = true) (h0 : 0 ≤ d) (h : d ≤ up) : freeR v up dn lo hi d = .ok v (up - d) dn lo hi := by
  unfold freeR; rw [if_pos ⟨hc, hd⟩, if_pos (by omega), if_neg (by omega)]
theorem freeR_pbad {v up dn lo hi d : Int} (hc : ckOK v up dn lo hi = true) (hd : inNum d = true) (h0 : 0 ≤ d) (h : up < d) : freeR v up dn lo hi d = .bad 9 := by
  unfold freeR; rw [if_pos ⟨hc, hd⟩, if_pos (by omega), if_pos (by omega)]
theorem freeR_nok {v up dn lo hi d : Int} (hc : ckOK v up dn lo hi = true) (hd : inNum d = true) (h0 : d < 0) (h : -d ≤ dn) : freeR v up dn lo hi d = .ok v up (dn + d) lo hi := by
  unfold freeR; rw [if_pos ⟨hc, hd⟩, if_neg (by omega), if_neg (by omega)]
theorem freeR_nbad {v up dn lo hi d : Int} (hc : ckOK v up dn lo hi = true) (hd : inNum d = true) (h0 : d < 0) (h : dn < -d) : freeR v up dn lo hi d = .bad 9 := by
  unfold freeR; rw [if_pos ⟨hc, hd⟩, if_neg (by omega), if_pos (by omega)]
theorem made_ck {v up dn be ov : Int} (l1 : -2147483648 ≤ v) (l2 : v ≤ 2147483647) (l3 : 0 ≤ up) (l4 : up ≤ 65535) (l5 : 0 ≤ dn) (l6 : dn ≤ 65535) (l7 : 0 ≤ be) (l8 : be ≤ 65535) (l9 : 0 ≤ ov) (l10 : ov ≤ 65535) : ckOK v up dn (v - up - be) (v + dn + ov) = true := by rw [ckOK_iff]; omega
end Go.Proofs.Ytmkggjhlacajaaa
