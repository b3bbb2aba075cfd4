/- Order of the program and of the reference. -/
import Derived.Test.YtflpnokhcaepfaaDoorChk
import Derived.StillTailTactics
import Derived.Deep.QuietTactic
import Derived.BigQuiet
import Derived.Deep.RegionWith
namespace Go.Proofs.YtflpnokhcaepfaaDoor
open Go.RowKit
set_option linter.unusedSimpArgs false
set_option linter.unusedVariables false
set_option linter.unusedSectionVars false
set_option maxRecDepth 10000
theorem cell_new_at {W : World} {cs : Array Value} {t : TypeId} {b i : Nat} (h : b = W.heap.size) : (W.alloc (.cells cs t)).drew.cell? ⟨b, i, none⟩ = cs[i]? := by subst h; exact blkC (hpDrewAt (hpNew W _)) i
theorem cmpI_zero {a b : Int} : cmpI a b = 0 ↔ a = b := by
  unfold cmpI; constructor
  · intro h; split at h
    · omega
    · split at h <;> omega
  · rintro rfl; rw [if_neg (by omega), if_neg (by omega)]
def firstI (x y : Int) : Int := if x = 0 then y else x
theorem ordI_eq (r n s m : Int) : firstI (cmpI r s) (cmpI n m) = ordI r n s m := by
  unfold ordI firstI
  by_cases h : r = s
  · rw [if_pos (cmpI_zero.2 h), if_pos h]
  · rw [if_neg (fun e => h (cmpI_zero.1 e)), if_neg h]
set_option maxHeartbeats 1000000 in
theorem cmp_any (a b : Int) (w : World) : Calls Tryd.prog 31 #[.int .i64 a, .int .i64 b] w fun e w' => e = .returned (.int .i64 (cmpI a b)) ∧ w = w' := by
  go_enter Tryd.func31, Tryd.ntmps31
  go_wp2
  all_goals
    go_ret
    refine ⟨ret_int ?_, rfl⟩
    unfold cmpI
    first | (rw [if_pos (by omega)]; done) | (rw [if_neg (by omega), if_pos (by omega)]; done) | (rw [if_neg (by omega), if_neg (by omega)]; done)
set_option maxHeartbeats 1000000 in
theorem first_any (x y : Int) (b : Nat) (w : World) (h0 : w.cell? ⟨b, 0, none⟩ = some (.int .i64 x)) (h1 : w.cell? ⟨b, 1, none⟩ = some (.int .i64 y)) :
    Calls Tryd.prog 30 #[.slice (some ⟨b, 0, none⟩) 2 2] w fun e w' => e = .returned (.int .i64 (firstI x y)) ∧ w = w' := by
  go_enter Tryd.func30, Tryd.ntmps30
  go_wp2
  go_loop [7] (fun i => ∃ k : Nat, k ≤ 2 ∧ i = .int .i64 k ∧ (1 ≤ k → x = 0) ∧ (2 ≤ k → y = 0)) (fun i => 2 - (intOf i).toNat)
  case atStart => exact ⟨0, by omega, rfl, by omega, by omega⟩
  case round =>
    obtain ⟨k, hk, rfl, hx, hy⟩ := hrel
    have h3 : k = 0 ∨ k = 1 ∨ k = 2 := by omega
    rcases h3 with rfl | rfl | rfl
    · clear hx hy
      by_cases e : x = 0
      · subst e
        go_wp2
        go_round
        case rel => exact ⟨1, by omega, rfl, fun _ => trivial, by omega⟩
        case measure => simp [intOf]
      · have e1 : (x != 0) = true := by simpa using e
        go_wp2
        go_ret
        exact ⟨ret_int (by simp [firstI, *]), rfl⟩
    · obtain rfl := hx (by omega)
      clear hx hy
      by_cases e : y = 0
      · subst e
        go_wp2
        go_round
        case rel => exact ⟨2, by omega, rfl, fun _ => trivial, fun _ => trivial⟩
        case measure => simp [intOf]
      · have e1 : (y != 0) = true := by simpa using e
        go_wp2
        go_ret
        exact ⟨ret_int (by simp [firstI, *]), rfl⟩
    · obtain rfl := hx (by omega)
      obtain rfl := hy (by omega)
      clear hx hy
      go_wp2
      go_ret
      exact ⟨ret_int (by simp [firstI, *]), rfl⟩
set_option maxHeartbeats 4000000 in
theorem order_any (r n s m : Int) (w : World) : Calls Tryd.prog 16 #[.agg #[.int .i64 r, .int .i64 n], .agg #[.int .i64 s, .int .i64 m]] w fun e w' => e = .returned (.int .i64 (ordI r n s m)) ∧ Below w.heap.size w w' := by
  go_enter Tryd.func16, Tryd.ntmps16
  go_wp2
  obtain ⟨W, hW⟩ : ∃ W, (w.alloc (.cells #[.int .i64 r, .int .i64 n] 23)).alloc (.cells #[.int .i64 s, .int .i64 m] 23) = W := ⟨_, rfl⟩
  have h1 : W.heap[w.heap.size]? = some (.cells #[.int .i64 r, .int .i64 n] 23 (0, 0)) := by rw [← hW]; exact (hpOld _ (by simp)).trans (hpNew w _)
  have h2 : W.heap[w.heap.size + 1]? = some (.cells #[.int .i64 s, .int .i64 m] 23 (0, 0)) := by rw [← hW]; exact hpNewAt _ (by simp)
  have c0 := blkC h1 0; have c1 := blkC h1 1; have d0 := blkC h2 0; have d1 := blkC h2 1
  have hb : Below w.heap.size w W := by rw [← hW]; exact ((Below.refl _ w).alloc (Nat.le_refl _) _).alloc (by simp) _
  rw [hW]
  have HB := Lib.hid hb
  clear hW h1 h2 hb
  go_still_tail 10, (by kernel_rfl)
  still_call ((cmp_any _ _ _).mono fun _ _ ⟨he, hw⟩ => ⟨he, hw.symm⟩)
  repeat still_step
  still_call ((cmp_any _ _ _).mono fun _ _ ⟨he, hw⟩ => ⟨he, hw.symm⟩)
  repeat still_step
  refine wpStill_nil ?_
  go_wp2_with (fail)
  refine (first_any (cmpI r s) (cmpI n m) _ _ ((cell_new_at rfl).trans rfl) ((cell_new_at rfl).trans rfl)).mono ?_
  rintro e w' ⟨rfl, rfl⟩
  go_wp2_with (fail)
  go_ret
  refine ⟨ret_int (ordI_eq r n s m), ?_⟩
  have hq := HB.out
  exact (hq.alloc hq.size _).drew
set_option maxHeartbeats 1000000 in
theorem rorder_any (r n s m : Int) (w : World) : Calls Tryd.prog 17 #[.agg #[.int .i64 r, .int .i64 n], .agg #[.int .i64 s, .int .i64 m]] w fun e w' => e = .returned (.int .i64 (ordI r n s m)) ∧ Below w.heap.size w w' := by
  go_enter Tryd.func17, Tryd.ntmps17
  go_wp2
  all_goals
    go_ret
    refine ⟨ret_int ?_, ?_⟩
    · unfold ordI cmpI
      first | (rw [if_pos (by omega), if_pos (by omega)]; done) | (rw [if_pos (by omega), if_neg (by omega), if_pos (by omega)]; done) | (rw [if_pos (by omega), if_neg (by omega), if_neg (by omega)]; done) | (rw [if_neg (by omega), if_pos (by omega)]; done) | (rw [if_neg (by omega), if_neg (by omega), if_pos (by omega)]; done) | (rw [if_neg (by omega), if_neg (by omega), if_neg (by omega)]; done)
    · repeat (first | exact Below.refl _ _ | (refine Below.setCell ?_ (by simp) _) | (refine Below.alloc ?_ (by simp) _))
end Go.Proofs.YtflpnokhcaepfaaDoor
