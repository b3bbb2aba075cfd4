/- The order of effects: ident.Order. -/
import Derived.Test.YtgnjnpddehdmcaaGreatDoorEf
import Derived.StillTailTactics
import Derived.Deep.QuietTactic
import Derived.BigQuiet
import Derived.Deep.RegionWith
namespace Go.Proofs.YtgnjnpddehdmcaaGreatDoor
open Go.RowKit
set_option linter.unusedSimpArgs false
set_option linter.unusedVariables false
set_option linter.unusedSectionVars false
set_option maxRecDepth 10000
theorem cell_new_at {W : World} {cs : Array Value} {t : TypeId} {b i : Nat} (h : b = W.heap.size) : (W.alloc (.cells cs t)).drew.cell? ⟨b, i, none⟩ = cs[i]? := by subst h; exact blkC (hpDrewAt (hpNew W _)) i
def cmpI (a b : Int) : Int := if a < b then -1 else if a > b then 1 else 0
theorem cmpI_zero {a b : Int} : cmpI a b = 0 ↔ a = b := by
 unfold cmpI; constructor
 ·
  intro h; split at h
  ·
   omega
  ·
   split at h <;> omega
 ·
  rintro rfl; rw [if_neg (by omega), if_neg (by omega)]
theorem cmpI_neg {a b : Int} : cmpI a b < 0 ↔ a < b := by
 unfold cmpI; constructor
 ·
  intro h; split at h
  ·
   assumption
  ·
   split at h <;> omega
 ·
  intro h; rw [if_pos h]; omega
def cmpE (x y : Ef) : Int := if cmpI x.1 y.1 = 0 then (if cmpI x.2.1 y.2.1 = 0 then cmpI x.2.2 y.2.2 else cmpI x.2.1 y.2.1) else cmpI x.1 y.1
set_option maxHeartbeats 1000000 in
theorem cmp_any (a b : Int) (w : World) : Calls Tryz.prog 278 #[.int .i64 a, .int .i64 b] w fun e w' => e = .returned (.int .i64 (cmpI a b)) ∧ w = w' := by
 go_enter Tryz.func278, Tryz.ntmps278
 go_wp2
 all_goals
  go_ret
  refine ⟨ret_int ?_, rfl⟩
  unfold cmpI
  first | (rw [if_pos (by omega)]; done) | (rw [if_neg (by omega), if_pos (by omega)]; done) | (rw [if_neg (by omega), if_neg (by omega)]; done)
def firstI (x y z : Int) : Int := if x = 0 then (if y = 0 then z else y) else x
set_option maxHeartbeats 2000000 in
theorem or_any (x y z : Int) (b : Nat) (w : World) (h0 : w.cell? ⟨b, 0, none⟩ = some (.int .i64 x)) (h1 : w.cell? ⟨b, 1, none⟩ = some (.int .i64 y)) (h2 : w.cell? ⟨b, 2, none⟩ = some (.int .i64 z)) :
  Calls Tryz.prog 277 #[.slice (some ⟨b, 0, none⟩) 3 3] w fun e w' => e = .returned (.int .i64 (firstI x y z)) ∧ w = w' := by
 go_enter Tryz.func277, Tryz.ntmps277
 go_wp2
 go_loop [8] (fun i => ∃ k : Nat, k ≤ 3 ∧ i = .int .i64 k ∧ (1 ≤ k → x = 0) ∧ (2 ≤ k → y = 0) ∧ (3 ≤ k → z = 0)) (fun i => 3 - (intOf i).toNat)
 case atStart => exact ⟨0, by omega, rfl, by omega, by omega, by omega⟩
 case round =>
  obtain ⟨k, hk, rfl, hx, hy, hz⟩ := hrel
  have h3 : k = 0 ∨ k = 1 ∨ k = 2 ∨ k = 3 := by omega
  rcases h3 with rfl | rfl | rfl | rfl
  ·
   clear hx hy hz
   by_cases e : x = 0
   ·
    subst e
    go_wp2
    go_round
    case rel => exact ⟨1, by omega, rfl, fun _ => trivial, by omega, by omega⟩
    case measure => simp [intOf]
   ·
    have e1 : (x != 0) = true := by simpa using e
    go_wp2
    go_ret
    exact ⟨ret_int (by simp [firstI, *]), rfl⟩
  ·
   obtain rfl := hx (by omega)
   clear hx hy hz
   by_cases e : y = 0
   ·
    subst e
    go_wp2
    go_round
    case rel => exact ⟨2, by omega, rfl, fun _ => trivial, fun _ => trivial, by omega⟩
    case measure => simp [intOf]
   ·
    have e1 : (y != 0) = true := by simpa using e
    go_wp2
    go_ret
    exact ⟨ret_int (by simp [firstI, *]), rfl⟩
  ·
   obtain rfl := hx (by omega)
   obtain rfl := hy (by omega)
   clear hx hy hz
   by_cases e : z = 0
   ·
    subst e
    go_wp2
    go_round
    case rel => exact ⟨3, by omega, rfl, fun _ => trivial, fun _ => trivial, fun _ => trivial⟩
    case measure => simp [intOf]
   ·
    have e1 : (z != 0) = true := by simpa using e
    go_wp2
    go_ret
    exact ⟨ret_int (by simp [firstI, *]), rfl⟩
  ·
   obtain rfl := hx (by omega)
   obtain rfl := hy (by omega)
   obtain rfl := hz (by omega)
   clear hx hy hz
   go_wp2
   go_ret
   exact ⟨ret_int (by simp [firstI, *]), rfl⟩
set_option maxHeartbeats 4000000 in
theorem order_any (x y : Ef) (w : World) : Calls Tryz.prog 240 #[.agg #[.int .i64 x.1, .int .i64 x.2.1, .int .i64 x.2.2], .agg #[.int .i64 y.1, .int .i64 y.2.1, .int .i64 y.2.2]] w fun e w' => e = .returned (.int .i64 (cmpE x y)) ∧ Below w.heap.size w w' := by
 obtain ⟨a, b, c⟩ := x
 obtain ⟨d, e, f⟩ := y
 simp only
 have hfin : firstI (cmpI a d) (cmpI b e) (cmpI c f) = cmpE (a, b, c) (d, e, f) := rfl
 generalize cmpE (a, b, c) (d, e, f) = z at *
 replace hfin := Lh hfin
 go_enter Tryz.func240, Tryz.ntmps240
 go_wp2
 obtain ⟨W, hW⟩ : ∃ W, (w.alloc (.cells #[.int .i64 a, .int .i64 b, .int .i64 c] 30)).alloc (.cells #[.int .i64 d, .int .i64 e, .int .i64 f] 30) = W := ⟨_, rfl⟩
 have h1 : W.heap[w.heap.size]? = some (.cells #[.int .i64 a, .int .i64 b, .int .i64 c] 30 (0, 0)) := by rw [← hW]; exact (hpOld _ (by simp)).trans (hpNew w _)
 have h2 : W.heap[w.heap.size + 1]? = some (.cells #[.int .i64 d, .int .i64 e, .int .i64 f] 30 (0, 0)) := by rw [← hW]; exact hpNewAt _ (by simp)
 have c0 := blkC h1 0; have c1 := blkC h1 1; have c2 := blkC h1 2; have d0 := blkC h2 0; have d1 := blkC h2 1; have d2 := blkC h2 2
 rw [hW]
 have HW := Lh hW
 clear hW h1 h2
 go_still_tail 15, (by kernel_rfl)
 still_call ((cmp_any _ _ _).mono fun _ _ ⟨he, hw⟩ => ⟨he, hw.symm⟩)
 repeat still_step
 still_call ((cmp_any _ _ _).mono fun _ _ ⟨he, hw⟩ => ⟨he, hw.symm⟩)
 repeat still_step
 still_call ((cmp_any _ _ _).mono fun _ _ ⟨he, hw⟩ => ⟨he, hw.symm⟩)
 repeat still_step
 refine wpStill_nil ?_
 go_wp2_with (fail)
 refine (or_any (cmpI a d) (cmpI b e) (cmpI c f) _ _ ((cell_new_at rfl).trans rfl) ((cell_new_at rfl).trans rfl) ((cell_new_at rfl).trans rfl)).mono ?_
 rintro e w' ⟨rfl, rfl⟩
 go_wp2_with (fail)
 go_ret
 refine ⟨ret_int hfin.out, ?_⟩
 rw [← HW.out]
 repeat (first | exact Below.refl _ _ | (refine Below.drew ?_) | (refine Below.alloc ?_ (by simp <;> omega) _))
end Go.Proofs.YtgnjnpddehdmcaaGreatDoor
