/- The order of effects: ident.Order; sorting by it. -/
import Derived.Test.YthmkfbabacehnaaDoorEqE
import Derived.Test.YthmkfbabacehnaaDoorDown
import Derived.Test.YthmkfbabacehnaaDoorRangeM
import Derived.StillTailTactics
import Derived.Deep.QuietTactic
import Derived.BigQuiet
import Derived.Deep.RegionWith
namespace Go.Proofs.YthmkfbabacehnaaDoor
open Go.RowKit Go.Shelf Go.Sort
set_option linter.unusedSimpArgs false
set_option linter.unusedVariables false
set_option linter.unusedSectionVars false
set_option maxRecDepth 10000
theorem cell_new_at {W : World} {cs : Array Value} {t : TypeId} {b i : Nat} (h : b = W.heap.size) : (W.alloc (.cells cs t)).drew.cell? ⟨b, i, none⟩ = cs[i]? := by subst h; exact blkC (hpDrewAt (hpNew W _)) i
def cmpI (a b : Int) : Int := if a < b then -1 else if a > b then 1 else 0
theorem cmpI_zero {a b : Int} : cmpI a b = 0 ↔ a = b := by
  unfold cmpI; constructor
  · intro h; split at h
    · omega
    · split at h <;> omega
  · rintro rfl; rw [if_neg (by omega), if_neg (by omega)]
theorem cmpI_neg {a b : Int} : cmpI a b < 0 ↔ a < b := by
  unfold cmpI; constructor
  · intro h; split at h
    · assumption
    · split at h <;> omega
  · intro h; rw [if_pos h]; omega
/-- What ident.Order returns. -/
def cmpE (x y : Ef) : Int := if cmpI x.1 y.1 = 0 then (if cmpI x.2.1 y.2.1 = 0 then cmpI x.2.2 y.2.2 else cmpI x.2.1 y.2.1) else cmpI x.1 y.1
theorem ltOf_cmpE : ltOf cmpE = efLt := by
  funext x y
  rw [Bool.eq_iff_iff, efLt_iff]
  have h0 : ltOf cmpE x y = true ↔ cmpE x y < 0 := by simp [ltOf]
  rw [h0]
  unfold cmpE
  by_cases h1 : x.1 = y.1
  · rw [if_pos (cmpI_zero.2 h1)]
    by_cases h2 : x.2.1 = y.2.1
    · rw [if_pos (cmpI_zero.2 h2), cmpI_neg]; omega
    · rw [if_neg (fun e => h2 (cmpI_zero.1 e)), cmpI_neg]; omega
  · rw [if_neg (fun e => h1 (cmpI_zero.1 e)), cmpI_neg]; omega
theorem swoE : SWO (ltOf cmpE) := by
  rw [ltOf_cmpE]
  have hn : ∀ x y, efLt x y = false ↔ ¬ (x.1 < y.1 ∨ (x.1 = y.1 ∧ (x.2.1 < y.2.1 ∨ (x.2.1 = y.2.1 ∧ x.2.2 < y.2.2)))) := fun x y => by
    rw [← efLt_iff, Bool.not_eq_true]
  refine ⟨fun x => ?_, fun x y z => ?_, fun x y z => ?_⟩
  · rw [hn]; omega
  · rw [efLt_iff, efLt_iff, efLt_iff]; omega
  · rw [hn, hn, hn]; omega
theorem grown_grow (W : World) (os : Array Obj) : W.grownBy (grow W os) none := ⟨rfl, rfl, rfl, by simp [grow], fun k hk _ => by simp only [grow]; rw [Array.getElem?_append_left hk]⟩
set_option maxHeartbeats 1000000 in
theorem cmp_any (a b : Int) (w : World) : Calls Tryd.prog 46 #[.int .i64 a, .int .i64 b] w fun e w' => e = .returned (.int .i64 (cmpI a b)) ∧ w = w' := by
  go_enter Tryd.func46, Tryd.ntmps46
  go_wp2
  all_goals
    go_ret
    refine ⟨ret_int ?_, rfl⟩
    unfold cmpI
    first | (rw [if_pos (by omega)]; done) | (rw [if_neg (by omega), if_pos (by omega)]; done) | (rw [if_neg (by omega), if_neg (by omega)]; done)
def firstI (x y z : Int) : Int := if x = 0 then (if y = 0 then z else y) else x
set_option maxHeartbeats 2000000 in
theorem or_any (x y z : Int) (b : Nat) (w : World) (h0 : w.cell? ⟨b, 0, none⟩ = some (.int .i64 x)) (h1 : w.cell? ⟨b, 1, none⟩ = some (.int .i64 y)) (h2 : w.cell? ⟨b, 2, none⟩ = some (.int .i64 z)) :
    Calls Tryd.prog 45 #[.slice (some ⟨b, 0, none⟩) 3 3] w fun e w' => e = .returned (.int .i64 (firstI x y z)) ∧ w = w' := by
  go_enter Tryd.func45, Tryd.ntmps45
  go_wp2
  go_loop [8] (fun i => ∃ k : Nat, k ≤ 3 ∧ i = .int .i64 k ∧ (1 ≤ k → x = 0) ∧ (2 ≤ k → y = 0) ∧ (3 ≤ k → z = 0)) (fun i => 3 - (intOf i).toNat)
  case atStart => exact ⟨0, by omega, rfl, by omega, by omega, by omega⟩
  case round =>
    obtain ⟨k, hk, rfl, hx, hy, hz⟩ := hrel
    have h3 : k = 0 ∨ k = 1 ∨ k = 2 ∨ k = 3 := by omega
    rcases h3 with rfl | rfl | rfl | rfl
    · clear hx hy hz
      by_cases e : x = 0
      · subst e
        go_wp2
        go_round
        case rel => exact ⟨1, by omega, rfl, fun _ => trivial, by omega, by omega⟩
        case measure => simp [intOf]
      · have e1 : (x != 0) = true := by simpa using e
        go_wp2
        go_ret
        exact ⟨ret_int (by simp [firstI, *]), rfl⟩
    · obtain rfl := hx (by omega)
      clear hx hy hz
      by_cases e : y = 0
      · subst e
        go_wp2
        go_round
        case rel => exact ⟨2, by omega, rfl, fun _ => trivial, fun _ => trivial, by omega⟩
        case measure => simp [intOf]
      · have e1 : (y != 0) = true := by simpa using e
        go_wp2
        go_ret
        exact ⟨ret_int (by simp [firstI, *]), rfl⟩
    · obtain rfl := hx (by omega)
      obtain rfl := hy (by omega)
      clear hx hy hz
      by_cases e : z = 0
      · subst e
        go_wp2
        go_round
        case rel => exact ⟨3, by omega, rfl, fun _ => trivial, fun _ => trivial, fun _ => trivial⟩
        case measure => simp [intOf]
      · have e1 : (z != 0) = true := by simpa using e
        go_wp2
        go_ret
        exact ⟨ret_int (by simp [firstI, *]), rfl⟩
    · obtain rfl := hx (by omega)
      obtain rfl := hy (by omega)
      obtain rfl := hz (by omega)
      clear hx hy hz
      go_wp2
      go_ret
      exact ⟨ret_int (by simp [firstI, *]), rfl⟩
set_option maxHeartbeats 4000000 in
theorem order_any (x y : Ef) (w : World) : Calls Tryd.prog 29 #[.agg #[.int .i64 x.1, .int .i64 x.2.1, .int .i64 x.2.2], .agg #[.int .i64 y.1, .int .i64 y.2.1, .int .i64 y.2.2]] w fun e w' => e = .returned (.int .i64 (cmpE x y)) ∧ ∃ q os', w' = grow (w.drewN q) os' := by
  obtain ⟨a, b, c⟩ := x
  obtain ⟨d, e, f⟩ := y
  simp only
  have hfin : firstI (cmpI a d) (cmpI b e) (cmpI c f) = cmpE (a, b, c) (d, e, f) := rfl
  generalize cmpE (a, b, c) (d, e, f) = z at *
  replace hfin := Lib.hid hfin
  go_enter Tryd.func29, Tryd.ntmps29
  go_wp2
  obtain ⟨W, hW⟩ : ∃ W, (w.alloc (.cells #[.int .i64 a, .int .i64 b, .int .i64 c] 56)).alloc (.cells #[.int .i64 d, .int .i64 e, .int .i64 f] 56) = W := ⟨_, rfl⟩
  have h1 : W.heap[w.heap.size]? = some (.cells #[.int .i64 a, .int .i64 b, .int .i64 c] 56 (0, 0)) := by rw [← hW]; exact (hpOld _ (by simp)).trans (hpNew w _)
  have h2 : W.heap[w.heap.size + 1]? = some (.cells #[.int .i64 d, .int .i64 e, .int .i64 f] 56 (0, 0)) := by rw [← hW]; exact hpNewAt _ (by simp)
  have c0 := blkC h1 0; have c1 := blkC h1 1; have c2 := blkC h1 2; have d0 := blkC h2 0; have d1 := blkC h2 1; have d2 := blkC h2 2
  rw [hW]
  have HW := Lib.hid hW
  clear hW h1 h2
  go_still_tail 15, (by kernel_rfl)
  still_call ((cmp_any _ _ _).mono fun _ _ ⟨he, hw⟩ => ⟨he, hw.symm⟩)
  repeat still_step
  still_call ((cmp_any _ _ _).mono fun _ _ ⟨he, hw⟩ => ⟨he, hw.symm⟩)
  repeat still_step
  still_call ((cmp_any _ _ _).mono fun _ _ ⟨he, hw⟩ => ⟨he, hw.symm⟩)
  repeat still_step
  refine wpStill_nil ?_
  go_wp2_with (fail)
  refine (or_any (cmpI a d) (cmpI b e) (cmpI c f) _ _ ((cell_new_at rfl).trans rfl) ((cell_new_at rfl).trans rfl) ((cell_new_at rfl).trans rfl)).mono ?_
  rintro e w' ⟨rfl, rfl⟩
  go_wp2_with (fail)
  go_ret
  refine ⟨ret_int hfin.out, ?_⟩
  rw [← HW.out]
  refine ⟨1, #[.cells #[.int .i64 a, .int .i64 b, .int .i64 c] 56] ++ #[.cells #[.int .i64 d, .int .i64 e, .int .i64 f] 56] ++ #[.cells #[.int .i64 (cmpI a d), .int .i64 (cmpI b e), .int .i64 (cmpI c f)] 3], ?_⟩
  rw [alloc_eq_grow, alloc_eq_grow, alloc_eq_grow, grow_grow, grow_grow]
  rfl
theorem cmpLaysE (blk off size : Nat) (w : World) : CmpLays Tryd.prog 29 #[] encE 3 cmpE blk off size w := fun _ _ _ _ x y => order_any x y _
/-- What Next says: its candidates, sorted. -/
def sortE (l : List Ef) : List Ef := l.mergeSort fun x y => !efLt y x
theorem sort_any {w W : World} {A : Option Addr} {n c : Nat} {l : List Ef} (h : OwnE w A n c l W) (hn : n ≤ 1000000) :
    Calls Tryd.prog 28 #[.slice A n c, .func (.func 29) #[] #[]] W fun e w' => e = .returned (.tuple #[]) ∧ OwnE w A n c (sortE l) w' ∧ W.grownBy w' (rowOf A) := by
  rcases Nat.eq_zero_or_pos n with h0 | h0
  · subst h0
    have hl : l = [] := List.eq_nil_of_length_eq_zero h.len
    subst hl
    refine (Tryd.slices_SortFunc_E_none A c _ W).mono ?_
    rintro e w' ⟨rfl, rfl⟩
    exact ⟨rfl, by rw [show sortE [] = [] from by simp [sortE]]; exact h, ⟨rfl, rfl, rfl, Nat.le_refl _, fun _ _ _ => rfl⟩⟩
  · obtain ⟨g, rfl, hg, hlt⟩ := own_some h h0
    have hsz : l.toArray.size = n := by simp [h.len]
    have hc := Tryd.slices_SortFunc_E encE encE_len encE_one cmpE swoE 29 #[] g 0 c l.toArray W (enters_of Tryd.func29 (by kernel_rfl) rfl) (cmpLaysE _ _ _ _) (holdsK_of_own encE_len (by omega) h.own h.len) hlt (by rw [hsz]; omega) (by rw [ltOf_cmpE]; exact efLt_total)
    rw [hsz, ltOf_cmpE] at hc
    refine hc.mono ?_
    rintro e w' ⟨rfl, q, os, rfl⟩
    have hs : (l.toArray.toList.mergeSort fun x y => !efLt y x) = sortE l := rfl
    rw [hs]
    have hlen : (sortE l).length = n := by rw [sortE, List.length_mergeSort]; exact h.len
    have hg1 : W.grownBy (putRowK encE 3 (Sort.ahead W q) g 0 (sortE l).toArray) (some g) := grownBy_putRowK _
    have hP : OwnE w (some ⟨g, 0, none⟩) n c (sortE l) (putRowK encE 3 (Sort.ahead W q) g 0 (sortE l).toArray) :=
      ⟨h.bel.grown hg1 h.bel.size (fun k e => by cases e; exact hg), own_putRowK encE_len (by omega) h.own hlen, hlen, h.cap⟩
    have hg2 := grown_grow (putRowK encE 3 (Sort.ahead W q) g 0 (sortE l).toArray) os
    refine ⟨rfl, hP.keep (below_of_grown hg2 (Nat.le_refl _) (fun _ e => by cases e)), hg1.trans (grown_any hg2)⟩
end Go.Proofs.YthmkfbabacehnaaDoor
