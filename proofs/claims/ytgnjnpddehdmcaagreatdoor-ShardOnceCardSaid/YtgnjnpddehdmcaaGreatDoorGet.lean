/- New, Len, Room, Get, Key. -/
import Derived.Test.YtgnjnpddehdmcaaGreatDoorRange
import Derived.Test.YtgnjnpddehdmcaaGreatDoorOrd
import Derived.Deep.RegionHeld3
import Derived.Test.YtgnjnpddehdmcaaGreatDoorChgW
import Derived.Test.YtgnjnpddehdmcaaGreatDoorHas
import Derived.Deep.QuietTactic
import Derived.BigQuiet
namespace Go.Proofs.YtgnjnpddehdmcaaGreatDoor
open Go.RowKit Go.Shelf
set_option linter.unusedSimpArgs false
set_option linter.unusedVariables false
set_option linter.unusedSectionVars false
set_option maxRecDepth 10000
attribute [-go_sem] sliced
theorem PS.at_ {w : World} {A : Option Addr} {n : Nat} {l : List En} (h : PS w A n l) {i : Nat} (hi : i < n) : ∃ b o x, A = some ⟨b, o, none⟩ ∧ b < w.heap.size ∧ l[i]? = some x ∧ w.cell? ⟨b, o + i * 7, none⟩ = some (.int .i64 x.r.1) ∧ w.cell? ⟨b, o + i * 7 + 1, none⟩ = some (.int .i64 x.r.2.1) ∧ w.cell? ⟨b, o + i * 7 + 2, none⟩ = some (.string x.r.2.2) ∧ w.cell? ⟨b, o + i * 7 + 3, none⟩ = some (.int .i64 x.e.1) ∧ w.cell? ⟨b, o + i * 7 + 4, none⟩ = some (.int .i64 x.e.2.1) ∧ w.cell? ⟨b, o + i * 7 + 5, none⟩ = some (.int .i64 x.e.2.2) ∧ w.cell? ⟨b, o + i * 7 + 6, none⟩ = some (.string x.k) := by
 obtain ⟨b, o, x, e, hl, hx, hc⟩ := SL.at_ h hi
 exact ⟨b, o, x, e, hl, hx, hc 0 _ rfl, hc 1 _ rfl, hc 2 _ rfl, hc 3 _ rfl, hc 4 _ rfl, hc 5 _ rfl, hc 6 _ rfl⟩
theorem cmpE_zero (x y : Ef) : (cmpE x y == 0) = decide (x = y) := by
 rw [Bool.eq_iff_iff, beq_iff_eq, decide_eq_true_eq]
 obtain ⟨a, b, c⟩ := x
 obtain ⟨d, e, f⟩ := y
 simp only [cmpE, Prod.mk.injEq]
 constructor
 ·
  intro h
  split at h
  ·
   rename_i h1
   split at h
   ·
    rename_i h2
    exact ⟨cmpI_zero.1 h1, cmpI_zero.1 h2, cmpI_zero.1 h⟩
   ·
    rename_i h2; exact absurd h h2
  ·
   rename_i h1; exact absurd h h1
 ·
  rintro ⟨rfl, rfl, rfl⟩
  rw [if_pos (cmpI_zero.2 rfl), if_pos (cmpI_zero.2 rfl)]
  exact cmpI_zero.2 rfl
theorem cmpE_neg (x y : Ef) : cmpE x y < 0 ↔ efLt x y = true := by
 obtain ⟨a, b, c⟩ := x
 obtain ⟨d, e, f⟩ := y
 rw [efLt_ii]
 simp only [cmpE]
 by_cases h1 : a = d
 ·
  rw [if_pos (cmpI_zero.2 h1)]
  by_cases h2 : b = e
  ·
   rw [if_pos (cmpI_zero.2 h2), cmpI_neg]; omega
  ·
   rw [if_neg (fun q => h2 (cmpI_zero.1 q)), cmpI_neg]; omega
 ·
  rw [if_neg (fun q => h1 (cmpI_zero.1 q)), cmpI_neg]; omega
set_option maxHeartbeats 2000000 in
theorem eorder_any (x : En) (y : Ef) (w : World) : Calls Tryz.prog 232 #[.agg #[.int .i64 x.r.1, .int .i64 x.r.2.1, .string x.r.2.2, .int .i64 x.e.1, .int .i64 x.e.2.1, .int .i64 x.e.2.2, .string x.k], .agg #[.int .i64 y.1, .int .i64 y.2.1, .int .i64 y.2.2]] w fun e w' => e = .returned (.int .i64 (cmpE x.e y)) ∧ Below w.heap.size w w' := by
 have hc := fun W => order_any x.e y W
 have kb := ((Below.refl w.heap.size w).alloc (Nat.le_refl _) (.cells #[.int .i64 x.r.1, .int .i64 x.r.2.1, .string x.r.2.2, .int .i64 x.e.1, .int .i64 x.e.2.1, .int .i64 x.e.2.2, .string x.k] 125)).alloc (by simp) (.cells #[.int .i64 y.1, .int .i64 y.2.1, .int .i64 y.2.2] 30)
 replace kb := Lh kb
 go_enter Tryz.func232, Tryz.ntmps232
 go_wp2_with (fail)
 refine (hc _).mono ?_
 rintro e w1 ⟨rfl, b1⟩
 go_wp2_with (fail)
 go_ret
 exact ⟨rfl, kb.out.trans (b1.mono kb.out.size)⟩
set_option maxHeartbeats 8000000 in
theorem search_any (A : Option Addr) (n c : Nat) (l : List En) (y : Ef) (w : World) (h : PS w A n l) (ho : Ord l) (hn : n ≤ 1000000) :
  Calls Tryz.prog 231 #[.slice A n c, .agg #[.int .i64 y.1, .int .i64 y.2.1, .int .i64 y.2.2], .func (.func 232) #[] #[]] w fun e w' => e = .returned (.tuple #[.int .i64 (pos l y : Nat), .bool (hasB l y)]) ∧ Below w.heap.size w w' := by
 have hl := h.1
 have hpl := pos_le l y
 have kb := (Below.refl w.heap.size w).alloc (Nat.le_refl _) (.cells #[.int .i64 y.1, .int .i64 y.2.1, .int .i64 y.2.2] 30)
 have hS0 := SL.keep h kb
 have hnew := hpNew w (.cells #[.int .i64 y.1, .int .i64 y.2.1, .int .i64 y.2.2] 30)
 obtain ⟨W0, hW0⟩ : ∃ W0, W0 = w.alloc (.cells #[.int .i64 y.1, .int .i64 y.2.1, .int .i64 y.2.2] 30) := ⟨_, rfl⟩
 rw [← hW0] at kb hS0 hnew
 have t0' := blkC hnew 0; have t1' := blkC hnew 1; have t2' := blkC hnew 2
 simp only [List.getElem?_toArray, List.getElem?_cons_zero, List.getElem?_cons_succ] at t0' t1' t2'
 have lt0 := blkX hnew
 replace h := Lh h; replace kb := Lh kb; replace hS0 := Lh hS0; replace hnew := Lh hnew; replace hW0 := Lh hW0; replace t0' := Lh t0'; replace t1' := Lh t1'; replace t2' := Lh t2'; replace hl := Lh hl; replace ho := Lh ho
 go_enter Tryz.func231, Tryz.ntmps231
 go_wp2_with (fail)
 go_loopw [9, 10] (fun i j wr => ∃ lo hi : Nat, i = .int .i64 lo ∧ j = .int .i64 hi ∧ lo ≤ pos l y ∧ pos l y ≤ hi ∧ hi ≤ n ∧ Below W0.heap.size W0 wr) (fun i j _ => (intOf j - intOf i).toNat)
 case atStart => exact ⟨0, n, rfl, rfl, by omega, by have := hl.out; omega, by omega, by rw [hW0.out]; exact Below.refl _ _⟩
 case round =>
  revert wr
  intro W1 hrel
  obtain ⟨lo, hi, rfl, rfl, h1, h2, h3, hb⟩ := hrel
  have hS1 := SL.keep hS0.out hb
  have t0 := (hb.cell (p := ⟨w.heap.size, 0, none⟩) lt0).trans t0'.out
  have t1 := (hb.cell (p := ⟨w.heap.size, 1, none⟩) lt0).trans t1'.out
  have t2 := (hb.cell (p := ⟨w.heap.size, 2, none⟩) lt0).trans t2'.out
  by_cases hlt : lo < hi
  ·
   obtain ⟨m, hm⟩ : ∃ m : Nat, m = (lo + hi) / 2 := ⟨_, rfl⟩
   obtain ⟨b, o, x, rfl, hbl, hx, p0, p1, p2, p3, p4, p5, p6⟩ := PS.at_ hS1 (i := m) (by omega)
   have hcmp := fun W => eorder_any x y W
   have hmi : ((lo : Int) + (hi : Int)) / 2 = (m : Int) := by omega
   have m0 : (0 : Int) ≤ m := by omega
   have m1 : (m : Int) < n := by omega
   have hlo : m < pos l y ↔ cmpE x.e y < 0 := (pos_iff ho.out hx).trans (cmpE_neg _ _).symm
   have hm1 : lo ≤ m := by omega
   have hm2 : m < hi := by omega
   generalize cmpE x.e y = z at *
   replace hm := Lh hm; replace hb := Lh hb; replace hS1 := Lh hS1; replace hx := Lh hx
   by_cases hz : z < 0
   ·
    have hp := hlo.2 hz
    clear hlo
    go_wp2_with (fail)
    refine wp_region_any (by kernel_rfl) ?_
    try (change wpAny _ _ _ _ _ _ _ (World.drew _))
    have kV := Lh ((Below.refl W1.heap.size W1).drew)
    replace p0 : W1.drew.cell? _ = _ := p0
    replace p1 : W1.drew.cell? _ = _ := p1
    replace p2 : W1.drew.cell? _ = _ := p2
    replace p3 : W1.drew.cell? _ = _ := p3
    replace p4 : W1.drew.cell? _ = _ := p4
    replace p5 : W1.drew.cell? _ = _ := p5
    replace p6 : W1.drew.cell? _ = _ := p6
    replace t0 : W1.drew.cell? _ = _ := t0
    replace t1 : W1.drew.cell? _ = _ := t1
    replace t2 : W1.drew.cell? _ = _ := t2
    generalize W1.drew = V at *
    refine ta 0 ?_
    refine ta 1 ?_
    refine ta 2 ?_
    refine ta 3 ?_
    refine wpAny_ready (rs := [4, 5]) (by kernel_rfl) (by simp) ?_
    refine AllReady.cons rfl (fun K hK => ?_) ?_
    ·
     have hK' := hK; clear hK; have hK := hK'; clear hK'
     go_simp
     refine hK _ _ ?_
     clear hK K
     refine wpAny_ready (rs := [5]) (by kernel_rfl) (by simp) ?_
     refine AllReady.cons rfl (fun K hK => ?_) ?_
     ·
      have hK' := hK; clear hK; have hK := hK'; clear hK'
      go_simp
      refine hK _ _ ?_
      clear hK K
      refine wpAny_ready (rs := [6]) (by kernel_rfl) (by simp) ?_
      refine AllReady.cons rfl (fun K hK => ?_) ?_
      ·
       have hK' := hK; clear hK; have hK := hK'; clear hK'
       go_simp
       refine (hcmp _).mono ?_
       rintro e' w6 ⟨rfl, b6⟩
       have hk6 := Lh (kV.out.trans (b6.mono kV.out.size))
       clear b6
       refine hK _ _ ?_
       clear hK K
       refine ta 7 ?_
       refine wpAny_done (by kernel_rfl) ?_ _
       go_wp2_with (fail)
       exact ⟨⟨m + 1, hi, by go_num, rfl, by omega, by omega, by omega, hb.out.trans (hk6.out.mono hb.out.size)⟩, by simp [intOf]; omega⟩
      exact AllReady.nil
     exact AllReady.nil
    refine AllReady.cons rfl (fun K hK => ?_) ?_
    ·
     have hK' := hK; clear hK; have hK := hK'; clear hK'
     go_simp
     refine hK _ _ ?_
     clear hK K
     refine wpAny_ready (rs := [4]) (by kernel_rfl) (by simp) ?_
     refine AllReady.cons rfl (fun K hK => ?_) ?_
     ·
      have hK' := hK; clear hK; have hK := hK'; clear hK'
      go_simp
      refine hK _ _ ?_
      clear hK K
      refine wpAny_ready (rs := [6]) (by kernel_rfl) (by simp) ?_
      refine AllReady.cons rfl (fun K hK => ?_) ?_
      ·
       have hK' := hK; clear hK; have hK := hK'; clear hK'
       go_simp
       refine (hcmp _).mono ?_
       rintro e' w6 ⟨rfl, b6⟩
       have hk6 := Lh (kV.out.trans (b6.mono kV.out.size))
       clear b6
       refine hK _ _ ?_
       clear hK K
       refine ta 7 ?_
       refine wpAny_done (by kernel_rfl) ?_ _
       go_wp2_with (fail)
       exact ⟨⟨m + 1, hi, by go_num, rfl, by omega, by omega, by omega, hb.out.trans (hk6.out.mono hb.out.size)⟩, by simp [intOf]; omega⟩
      exact AllReady.nil
     exact AllReady.nil
    exact AllReady.nil
   ·
    have hp : ¬ m < pos l y := fun q => hz (hlo.1 q)
    clear hlo
    go_wp2_with (fail)
    refine wp_region_any (by kernel_rfl) ?_
    try (change wpAny _ _ _ _ _ _ _ (World.drew _))
    have kV := Lh ((Below.refl W1.heap.size W1).drew)
    replace p0 : W1.drew.cell? _ = _ := p0
    replace p1 : W1.drew.cell? _ = _ := p1
    replace p2 : W1.drew.cell? _ = _ := p2
    replace p3 : W1.drew.cell? _ = _ := p3
    replace p4 : W1.drew.cell? _ = _ := p4
    replace p5 : W1.drew.cell? _ = _ := p5
    replace p6 : W1.drew.cell? _ = _ := p6
    replace t0 : W1.drew.cell? _ = _ := t0
    replace t1 : W1.drew.cell? _ = _ := t1
    replace t2 : W1.drew.cell? _ = _ := t2
    generalize W1.drew = V at *
    refine ta 0 ?_
    refine ta 1 ?_
    refine ta 2 ?_
    refine ta 3 ?_
    refine wpAny_ready (rs := [4, 5]) (by kernel_rfl) (by simp) ?_
    refine AllReady.cons rfl (fun K hK => ?_) ?_
    ·
     have hK' := hK; clear hK; have hK := hK'; clear hK'
     go_simp
     refine hK _ _ ?_
     clear hK K
     refine wpAny_ready (rs := [5]) (by kernel_rfl) (by simp) ?_
     refine AllReady.cons rfl (fun K hK => ?_) ?_
     ·
      have hK' := hK; clear hK; have hK := hK'; clear hK'
      go_simp
      refine hK _ _ ?_
      clear hK K
      refine wpAny_ready (rs := [6]) (by kernel_rfl) (by simp) ?_
      refine AllReady.cons rfl (fun K hK => ?_) ?_
      ·
       have hK' := hK; clear hK; have hK := hK'; clear hK'
       go_simp
       refine (hcmp _).mono ?_
       rintro e' w6 ⟨rfl, b6⟩
       have hk6 := Lh (kV.out.trans (b6.mono kV.out.size))
       clear b6
       refine hK _ _ ?_
       clear hK K
       refine ta 7 ?_
       refine wpAny_done (by kernel_rfl) ?_ _
       go_wp2_with (fail)
       exact ⟨⟨lo, m, rfl, rfl, by omega, by omega, by omega, hb.out.trans (hk6.out.mono hb.out.size)⟩, by simp [intOf]; omega⟩
      exact AllReady.nil
     exact AllReady.nil
    refine AllReady.cons rfl (fun K hK => ?_) ?_
    ·
     have hK' := hK; clear hK; have hK := hK'; clear hK'
     go_simp
     refine hK _ _ ?_
     clear hK K
     refine wpAny_ready (rs := [4]) (by kernel_rfl) (by simp) ?_
     refine AllReady.cons rfl (fun K hK => ?_) ?_
     ·
      have hK' := hK; clear hK; have hK := hK'; clear hK'
      go_simp
      refine hK _ _ ?_
      clear hK K
      refine wpAny_ready (rs := [6]) (by kernel_rfl) (by simp) ?_
      refine AllReady.cons rfl (fun K hK => ?_) ?_
      ·
       have hK' := hK; clear hK; have hK := hK'; clear hK'
       go_simp
       refine (hcmp _).mono ?_
       rintro e' w6 ⟨rfl, b6⟩
       have hk6 := Lh (kV.out.trans (b6.mono kV.out.size))
       clear b6
       refine hK _ _ ?_
       clear hK K
       refine ta 7 ?_
       refine wpAny_done (by kernel_rfl) ?_ _
       go_wp2_with (fail)
       exact ⟨⟨lo, m, rfl, rfl, by omega, by omega, by omega, hb.out.trans (hk6.out.mono hb.out.size)⟩, by simp [intOf]; omega⟩
      exact AllReady.nil
     exact AllReady.nil
    exact AllReady.nil
  ·
   obtain rfl : hi = lo := by omega
   obtain rfl : hi = pos l y := by omega
   by_cases hend : pos l y < n
   ·
    obtain ⟨b, o, x, rfl, hbl, hx, p0, p1, p2, p3, p4, p5, p6⟩ := PS.at_ hS1 hend
    have hcmp := fun W => eorder_any x y W
    have hhas := has_pos ho.out hx
    have hz := cmpE_zero x.e y
    rw [← hhas] at hz
    generalize cmpE x.e y = z at *
    have m0 : (0 : Int) ≤ pos l y := by omega
    have m1 : (pos l y : Int) < n := by omega
    have hbb := hb
    replace hb := Lh hb; replace hbb := Lh hbb; replace hS1 := Lh hS1; replace hx := Lh hx; replace hhas := Lh hhas
    go_wp2_with (fail)
    refine wp_region_any (by kernel_rfl) ?_
    try (change wpAny _ _ _ _ _ _ _ (World.drew _))
    have kV := Lh ((Below.refl W1.heap.size W1).drew)
    replace p0 : W1.drew.cell? _ = _ := p0
    replace p1 : W1.drew.cell? _ = _ := p1
    replace p2 : W1.drew.cell? _ = _ := p2
    replace p3 : W1.drew.cell? _ = _ := p3
    replace p4 : W1.drew.cell? _ = _ := p4
    replace p5 : W1.drew.cell? _ = _ := p5
    replace p6 : W1.drew.cell? _ = _ := p6
    replace t0 : W1.drew.cell? _ = _ := t0
    replace t1 : W1.drew.cell? _ = _ := t1
    replace t2 : W1.drew.cell? _ = _ := t2
    generalize W1.drew = V at *
    refine ta 0 ?_
    refine ta 1 ?_
    refine ta 2 ?_
    refine ta 3 ?_
    refine ta 4 ?_
    refine ta 5 ?_
    refine ta 6 ?_
    refine ta 7 ?_
    refine ta 8 ?_
    refine wpAny_ready (rs := [9, 10]) (by kernel_rfl) (by simp) ?_
    refine AllReady.cons rfl (fun K hK => ?_) ?_
    ·
     have hK' := hK; clear hK; have hK := hK'; clear hK'
     go_simp
     refine hK _ _ ?_
     clear hK K
     refine wpAny_ready (rs := [10]) (by kernel_rfl) (by simp) ?_
     refine AllReady.cons rfl (fun K hK => ?_) ?_
     ·
      have hK' := hK; clear hK; have hK := hK'; clear hK'
      go_simp
      refine hK _ _ ?_
      clear hK K
      refine wpAny_ready (rs := [11]) (by kernel_rfl) (by simp) ?_
      refine AllReady.cons rfl (fun K hK => ?_) ?_
      ·
       have hK' := hK; clear hK; have hK := hK'; clear hK'
       go_simp
       refine (hcmp _).mono ?_
       rintro e' w6 ⟨rfl, b6⟩
       have hk6 := Lh (kV.out.trans (b6.mono kV.out.size))
       clear b6
       refine hK _ _ ?_
       clear hK K
       refine ta 12 ?_
       refine ta 13 ?_
       refine ta 14 ?_
       refine ta 15 ?_
       refine wpAny_done (by kernel_rfl) ?_ _
       go_wp2_with (fail)
       refine bodyPost_ret (results_tmp2 rfl _ _ _) rfl ?_
       exact ⟨by simp [hz], kb.out.trans ((hb.out.trans (hk6.out.mono hb.out.size)).mono kb.out.size)⟩
      exact AllReady.nil
     exact AllReady.nil
    refine AllReady.cons rfl (fun K hK => ?_) ?_
    ·
     have hK' := hK; clear hK; have hK := hK'; clear hK'
     go_simp
     refine hK _ _ ?_
     clear hK K
     refine wpAny_ready (rs := [9]) (by kernel_rfl) (by simp) ?_
     refine AllReady.cons rfl (fun K hK => ?_) ?_
     ·
      have hK' := hK; clear hK; have hK := hK'; clear hK'
      go_simp
      refine hK _ _ ?_
      clear hK K
      refine wpAny_ready (rs := [11]) (by kernel_rfl) (by simp) ?_
      refine AllReady.cons rfl (fun K hK => ?_) ?_
      ·
       have hK' := hK; clear hK; have hK := hK'; clear hK'
       go_simp
       refine (hcmp _).mono ?_
       rintro e' w6 ⟨rfl, b6⟩
       have hk6 := Lh (kV.out.trans (b6.mono kV.out.size))
       clear b6
       refine hK _ _ ?_
       clear hK K
       refine ta 12 ?_
       refine ta 13 ?_
       refine ta 14 ?_
       refine ta 15 ?_
       refine wpAny_done (by kernel_rfl) ?_ _
       go_wp2_with (fail)
       refine bodyPost_ret (results_tmp2 rfl _ _ _) rfl ?_
       exact ⟨by simp [hz], kb.out.trans ((hb.out.trans (hk6.out.mono hb.out.size)).mono kb.out.size)⟩
      exact AllReady.nil
     exact AllReady.nil
    exact AllReady.nil
   ·
    have hhas := has_end (e := y) ho.out (by have := hl.out; omega)
    have m1 : ¬ (pos l y : Int) < n := by omega
    have hbb := Lh (kb.out.trans (hb.mono kb.out.size))
    replace hb := Lh hb; replace hS1 := Lh hS1; replace hhas := Lh hhas
    clear t0 t1 t2
    go_wp2_with (fail)
    refine wp_region_any (by kernel_rfl) ?_
    try (change wpAny _ _ _ _ _ _ _ (World.drew _))
    refine ta 0 ?_
    refine ta 1 ?_
    refine ta 2 ?_
    refine ta 3 ?_
    refine ta 4 ?_
    refine tz 5 ?_
    refine tz 6 ?_
    refine tz 7 ?_
    refine tz 8 ?_
    refine tz 9 ?_
    refine tz 10 ?_
    refine tz 11 ?_
    refine tz 12 ?_
    refine ta 13 ?_
    refine ta 14 ?_
    refine ta 15 ?_
    refine wpAny_done (by kernel_rfl) ?_ _
    go_wp2_with (fail)
    refine bodyPost_ret (results_tmp2 rfl _ _ _) rfl ?_
    exact ⟨by rw [hhas.out]; rfl, by first | exact hbb.out | exact hbb.out.drew⟩
end Go.Proofs.YtgnjnpddehdmcaaGreatDoor

namespace Go.Proofs.YtgnjnpddehdmcaaGreatDoor
open Go.RowKit Go.Shelf
set_option linter.unusedSimpArgs false
set_option linter.unusedVariables false
set_option linter.unusedSectionVars false
set_option maxRecDepth 10000
structure TabP (base : Nat) (D : Nat) (size : Int) (A : Option Addr) (c : Nat) (P : List En) (W : World) : Prop where
 ge : base ≤ D
 blk : W.heap[D]? = some (.cells #[.bool true, .int .i64 size, .slice A P.length c] 153 (0, 0))
 own : W.ownsRow base 125 7 (.slice A P.length c) P.length (flat encP P)
 le : (P.length : Int) ≤ size
 sz : size ≤ 2048
section
variable {base D c : Nat} {size : Int} {A : Option Addr} {P : List En} {w W W' : World}
theorem TabP.ps (h : TabP base D size A c P W) : PS W A P.length P := SL.of_own encP_len h.own rfl
theorem TabP.lt (h : TabP base D size A c P W) : D < W.heap.size := blkX h.blk
theorem TabP.rowLt (h : TabP base D size A c P W) : ∀ g, rowOf A = some g → base ≤ g ∧ g < W.heap.size := own_row h.own
theorem TabP.cap (h : TabP base D size A c P W) : P.length ≤ c := by
 obtain ⟨A', c', e, hc⟩ := own_shape h.own
 injection e with _ _ e
 omega
theorem TabP.rowNe (h : TabP base D size A c P W) {g : Nat} {cs : Array Value} {T : TypeId} {f : Nat × Nat} (hg : W.heap[g]? = some (.cells cs T f)) (hT : T ≠ 125) : rowOf A ≠ some g := by
 intro q
 rcases h.own.2 with ⟨e, _⟩ | ⟨g', cap, cur, e, _, hh, _⟩
 ·
  injection e with e; rw [e] at q; cases q
 ·
  injection e with e
  rw [e] at q
  injection q with q
  subst q
  rw [hg] at hh
  injection hh with hh
  injection hh with _ hh
  exact hT hh
theorem TabP.keep (h : TabP base D size A c P W) (hs : W.heap.size ≤ W'.heap.size) (hk : ∀ k, k < W.heap.size → (k = D ∨ rowOf A = some k) → W'.heap[k]? = W.heap[k]?) : TabP base D size A c P W' :=
 ⟨h.ge, (hk D h.lt (.inl rfl)).trans h.blk, by
  rcases h.own.2 with e | ⟨g, cp, cur, e1, e2, hh, r⟩
  ·
   exact ⟨h.own.1, .inl e⟩
  ·
   exact ⟨h.own.1, .inr ⟨g, cp, cur, e1, e2, (hk g (blkX hh) (.inr (by injection e1 with e1; rw [e1]; rfl))).trans hh, r⟩⟩, h.le, h.sz⟩
theorem TabP.below (h : TabP base D size A c P W) (hb : Below W.heap.size W W') : TabP base D size A c P W' := h.keep hb.size fun k hk _ => hb.block k hk
theorem TabP.chg {S : Nat → Prop} (h : TabP base D size A c P W) (hc : Chg S W W') (hS : ∀ k, k = D ∨ rowOf A = some k → ¬ S k) : TabP base D size A c P W' := h.keep hc.size fun k hk q => hc.block k hk (hS k q)
end
theorem valid_any {base D c : Nat} {size : Int} {A : Option Addr} {P : List En} {w : World} (h : TabP base D size A c P w) : Calls Tryz.prog 160 #[.pointer (some ⟨D, 0, none⟩)] w fun e w' => e = .returned (.bool true) ∧ w' = w := by
 have c0 := blkC h.blk 0
 simp only [List.getElem?_toArray, List.getElem?_cons_zero, List.getElem?_cons_succ] at c0
 replace h := Lh h
 go_enter Tryz.func160, Tryz.ntmps160
 go_wp2
 go_ret
 exact ⟨rfl, rfl⟩
theorem okR_def (a b : Int) (s : ByteArray) : okR (a, b, s) = (decide (0 ≤ a) && decide (a ≤ 18) && decide (-1152921504606846976 ≤ b) && decide (b ≤ 1152921504606846976) && decide (s.size ≤ 65536)) := by
 simp only [okR, Bool.and_assoc]
set_option maxHeartbeats 1000000 in
theorem isReply_any (a b : Int) (s : ByteArray) (w : World) : Calls Tryz.prog 168 #[.agg #[.int .i64 a, .int .i64 b, .string s]] w fun e w' => e = .returned (.bool (okR (a, b, s))) ∧ Below w.heap.size w w' := by
 rw [okR_def]
 go_enter Tryz.func168, Tryz.ntmps168
 go_wp2
 all_goals
  go_ret
  refine ⟨ret_bool (by simp [*] <;> omega), ?_⟩
  repeat (first | exact Below.refl _ _ | (refine Below.alloc ?_ (by simp) _))
set_option maxHeartbeats 4000000 in
theorem find_any {base D c : Nat} {size : Int} {A : Option Addr} {P : List En} {w : World} (h : TabP base D size A c P w) (ho : Ord P) (y : Ef) : Calls Tryz.prog 165 #[.pointer (some ⟨D, 0, none⟩), .agg #[.int .i64 y.1, .int .i64 y.2.1, .int .i64 y.2.2]] w fun e w' => e = .returned (.tuple #[.int .i64 (pos P y : Nat), .bool (hasB P y)]) ∧ Below w.heap.size w w' := by
 have kb := (Below.refl w.heap.size w).alloc (Nat.le_refl _) (.cells #[.int .i64 y.1, .int .i64 y.2.1, .int .i64 y.2.2] 30)
 have hT := h.below kb
 have hnew := hpNew w (.cells #[.int .i64 y.1, .int .i64 y.2.1, .int .i64 y.2.2] 30)
 obtain ⟨W1, hW1⟩ : ∃ W1, W1 = w.alloc (.cells #[.int .i64 y.1, .int .i64 y.2.1, .int .i64 y.2.2] 30) := ⟨_, rfl⟩
 rw [← hW1] at kb hT hnew
 have hv := valid_any hT
 have hs := search_any A P.length c P y W1.drew (hT.below ((Below.refl _ W1).drew)).ps ho (by have := h.le; have := h.sz; omega)
 have t0 := blkC hnew 0; have t1 := blkC hnew 1; have t2 := blkC hnew 2
 have c2 := blkC hT.blk 2
 simp only [List.getElem?_toArray, List.getElem?_cons_zero, List.getElem?_cons_succ] at t0 t1 t2 c2
 replace h := Lh h; replace kb := Lh kb; replace hT := Lh hT; replace hnew := Lh hnew
 go_enter Tryz.func165, Tryz.ntmps165
 go_wp2_with (fail)
 rw [← hW1]
 replace hW1 := Lh hW1
 refine hv.mono ?_
 rintro e w2 ⟨rfl, rfl⟩
 go_wp2_with (fail)
 refine wp_region_any (by kernel_rfl) ?_
 try (change wpAny _ _ _ _ _ _ _ (World.drew _))
 refine ta 0 ?_
 refine ta 1 ?_
 refine ta 2 ?_
 refine wpAny_ready (rs := [3, 4]) (by kernel_rfl) (by simp) ?_
 refine AllReady.cons rfl (fun K hK => ?_) ?_
 ·
  have hK' := hK; clear hK; have hK := hK'; clear hK'
  go_simp
  refine hK _ _ ?_
  clear hK K
  refine wpAny_ready (rs := [4]) (by kernel_rfl) (by simp) ?_
  refine AllReady.cons rfl (fun K hK => ?_) ?_
  ·
   have hK' := hK; clear hK; have hK := hK'; clear hK'
   go_simp
   refine hK _ _ ?_
   clear hK K
   refine wpAny_ready (rs := [5]) (by kernel_rfl) (by simp) ?_
   refine AllReady.cons rfl (fun K hK => ?_) ?_
   ·
    have hK' := hK; clear hK; have hK := hK'; clear hK'
    go_simp
    refine hs.mono ?_
    rintro e' w6 ⟨rfl, b6⟩
    have hk6 := Lh ((Below.refl _ w2).drew.trans b6)
    clear b6
    refine hK _ _ ?_
    clear hK K
    refine ta 6 ?_
    refine ta 7 ?_
    refine ta 8 ?_
    refine ta 9 ?_
    refine wpAny_done (by kernel_rfl) ?_ _
    go_wp2_with (fail)
    refine bodyPost_ret (results_tmp2 rfl _ _ _) rfl ?_
    exact ⟨rfl, kb.out.trans (hk6.out.mono kb.out.size)⟩
   exact AllReady.nil
  exact AllReady.nil
 refine AllReady.cons rfl (fun K hK => ?_) ?_
 ·
  have hK' := hK; clear hK; have hK := hK'; clear hK'
  go_simp
  refine hK _ _ ?_
  clear hK K
  refine wpAny_ready (rs := [3]) (by kernel_rfl) (by simp) ?_
  refine AllReady.cons rfl (fun K hK => ?_) ?_
  ·
   have hK' := hK; clear hK; have hK := hK'; clear hK'
   go_simp
   refine hK _ _ ?_
   clear hK K
   refine wpAny_ready (rs := [5]) (by kernel_rfl) (by simp) ?_
   refine AllReady.cons rfl (fun K hK => ?_) ?_
   ·
    have hK' := hK; clear hK; have hK := hK'; clear hK'
    go_simp
    refine hs.mono ?_
    rintro e' w6 ⟨rfl, b6⟩
    have hk6 := Lh ((Below.refl _ w2).drew.trans b6)
    clear b6
    refine hK _ _ ?_
    clear hK K
    refine ta 6 ?_
    refine ta 7 ?_
    refine ta 8 ?_
    refine ta 9 ?_
    refine wpAny_done (by kernel_rfl) ?_ _
    go_wp2_with (fail)
    refine bodyPost_ret (results_tmp2 rfl _ _ _) rfl ?_
    exact ⟨rfl, kb.out.trans (hk6.out.mono kb.out.size)⟩
   exact AllReady.nil
  exact AllReady.nil
 exact AllReady.nil
end Go.Proofs.YtgnjnpddehdmcaaGreatDoor

namespace Go.Proofs.YtgnjnpddehdmcaaGreatDoor
open Go.RowKit Go.Shelf
set_option linter.unusedSimpArgs false
set_option linter.unusedVariables false
set_option linter.unusedSectionVars false
set_option maxRecDepth 10000
attribute [local go_sem ↓] hideAppend
structure OutB (base O : Nat) (B : Option Addr) (m d : Nat) (L : List Ef) (W : World) : Prop where
 ge : base ≤ O
 blk : W.heap[O]? = some (.cells #[.slice B m d] 117 (0, 0))
 own : W.ownsRow base 30 3 (.slice B m d) m (flat encE L)
 len : L.length = m
section
variable {base O m d : Nat} {B : Option Addr} {L : List Ef} {W W' : World}
theorem OutB.keep (h : OutB base O B m d L W) (hs : W.heap.size ≤ W'.heap.size) (hk : ∀ k, k < W.heap.size → (k = O ∨ rowOf B = some k) → W'.heap[k]? = W.heap[k]?) : OutB base O B m d L W' :=
 ⟨h.ge, (hk O (blkX h.blk) (.inl rfl)).trans h.blk, by
  rcases h.own.2 with e | ⟨g, cp, cur, e1, e2, hh, r⟩
  ·
   exact ⟨h.own.1, .inl e⟩
  ·
   exact ⟨h.own.1, .inr ⟨g, cp, cur, e1, e2, (hk g (blkX hh) (.inr (by injection e1 with e1; rw [e1]; rfl))).trans hh, r⟩⟩, h.len⟩
theorem OutB.below (h : OutB base O B m d L W) (hb : Below W.heap.size W W') : OutB base O B m d L W' := h.keep hb.size fun k hk _ => hb.block k hk
theorem OutB.rowNe (h : OutB base O B m d L W) {g : Nat} {cs : Array Value} {T : TypeId} {f : Nat × Nat} (hg : W.heap[g]? = some (.cells cs T f)) (hT : T ≠ 30) : rowOf B ≠ some g := by
 intro q
 rcases h.own.2 with ⟨e, _⟩ | ⟨g', cap, cur, e, _, hh, _⟩
 ·
  injection e with e; rw [e] at q; cases q
 ·
  injection e with e
  rw [e] at q
  injection q with q
  subst q
  rw [hg] at hh
  injection hh with hh
  injection hh with _ hh
  exact hT hh
theorem ef_one (V : World) (x : Ef) : ES (V.alloc (.cells #[.int .i64 x.1, .int .i64 x.2.1, .int .i64 x.2.2] 30)) (some ⟨V.heap.size, 0, none⟩) 1 [x] := by
 refine ⟨rfl, fun _ => ⟨_, _, rfl, by simp, fun i y hy j u hu => ?_⟩⟩
 have hi : i = 0 := by have := (List.getElem?_eq_some_iff.1 hy).1; simp at this; exact this
 subst hi
 simp only [List.getElem?_cons_zero, Option.some.injEq] at hy
 subst hy
 have := blkC (hpNew V (.cells #[.int .i64 x.1, .int .i64 x.2.1, .int .i64 x.2.2] 30)) (0 + 0 * 3 + j)
 rw [this]
 simpa [encE] using hu
theorem OutB.push (h : OutB base O B m d L W) (hb : base ≤ W.heap.size) (hm : m ≤ 100000) (x : Ef) :
  ∃ B' d' V, (appSem #[117, 117] 117 #[.slice B m d, .slice (some ⟨W.heap.size, 0, none⟩) 1 1]).run Tryz.prog (W.alloc (.cells #[.int .i64 x.1, .int .i64 x.2.1, .int .i64 x.2.2] 30)) = .ok (.slice B' (m + 1) d') V ∧
   V.heap[O]? = some (.cells #[.slice B m d] 117 (0, 0)) ∧ OutB base O B' (m + 1) d' (L ++ [x]) (V.setCell ⟨O, 0, none⟩ (.slice B' (m + 1) d')) ∧ Chg (fun k => k = O ∨ rowOf B = some k) W (V.setCell ⟨O, 0, none⟩ (.slice B' (m + 1) d')) ∧ (rowOf B' = rowOf B ∨ ∃ g, rowOf B' = some g ∧ W.heap.size ≤ g) := by
 have hb0 := (Below.refl W.heap.size W).alloc (Nat.le_refl _) (.cells #[.int .i64 x.1, .int .i64 x.2.1, .int .i64 x.2.2] 30)
 have h' := h.below hb0
 obtain ⟨B', d', V, hrun, hcap, hown, hgr, hat⟩ := append_sl elemE encE_len encE_one (ty := 117) (d := 1) h'.own (Nat.le_trans hb hb0.size) (ef_one W x) (by omega) (by omega)
 have hO : V.heap[O]? = some (.cells #[.slice B m d] 117 (0, 0)) := (hgr.block O (blkX h'.blk) fun e => h'.rowNe h'.blk (by decide) e.symm).trans h'.blk
 refine ⟨B', d', V, hrun, hO, ⟨h.ge, ?_, ?_, by simp [h.len]⟩, ?_, ?_⟩
 ·
  have := hpSet (i := 0) (v := .slice B' (m + 1) d') hO
  simpa using this
 ·
  rcases hown.2 with e | ⟨g, cp, cur, e1, e2, hh, r⟩
  ·
   exact ⟨hown.1, .inl e⟩
  ·
   refine ⟨hown.1, .inr ⟨g, cp, cur, e1, e2, (hpFar ?_).trans hh, r⟩⟩
   rintro rfl
   rw [hO] at hh
   injection hh with hh
   injection hh with _ hh
   exact absurd hh (by decide)
 ·
  refine Chg.setCell ?_ (fun _ => .inl rfl) _
  exact (Chg.of_below hb0 _).trans (Chg.of_grown (S := fun k => k = O ∨ rowOf B = some k) hgr fun k e => .inr e) (fun _ _ q => q)
 ·
  rcases hat with q | q
  ·
   exact .inl q
  ·
   exact .inr ⟨_, q, by simp⟩
end
def Took (base O : Nat) (B : Option Addr) (L : List Ef) (r : Bool) (x : Ef) (W : World) (e : Ending) (w' : World) : Prop :=
 ∃ B' m' d', e = .returned (.bool r) ∧ OutB base O B' m' d' (if r then L ++ [x] else L) w' ∧ Chg (fun k => k = O ∨ rowOf B = some k) W w' ∧ (rowOf B' = rowOf B ∨ ∃ g, rowOf B' = some g ∧ W.heap.size ≤ g)
set_option maxHeartbeats 4000000 in
theorem take1_any (a b : ByteArray) (R : Nat) (base O : Nat) (B : Option Addr) (m d : Nat) (L : List Ef) (x : En) (W : World) (hb : base ≤ W.heap.size) (hm : m ≤ 99999) (hR : W.heap[R]? = some (.cells #[.string a, .string b] 32 (0, 0))) (hO : OutB base O B m d L W) (hok : okG (a, b) = true) (hk : nameB x.k = true)
  (ha : a.size ≤ 140737488355328) (hbs : b.size ≤ 140737488355328) (hks : x.k.size ≤ 140737488355328) :
  Calls Tryz.prog 174 #[.agg #[.int .i64 x.r.1, .int .i64 x.r.2.1, .string x.r.2.2, .int .i64 x.e.1, .int .i64 x.e.2.1, .int .i64 x.e.2.2, .string x.k], .pointer (some ⟨R, 0, none⟩), .pointer (some ⟨O, 0, none⟩)] W (Took base O B L (inG (a, b) x.k) x.e W) := by
 have kb := (Below.refl W.heap.size W).alloc (Nat.le_refl _) (.cells #[.int .i64 x.r.1, .int .i64 x.r.2.1, .string x.r.2.2, .int .i64 x.e.1, .int .i64 x.e.2.1, .int .i64 x.e.2.2, .string x.k] 125)
 obtain ⟨W1, hW1⟩ : ∃ W1, W1 = W.alloc (.cells #[.int .i64 x.r.1, .int .i64 x.r.2.1, .string x.r.2.2, .int .i64 x.e.1, .int .i64 x.e.2.1, .int .i64 x.e.2.2, .string x.k] 125) := ⟨_, rfl⟩
 have hnew := hpNew W (.cells #[.int .i64 x.r.1, .int .i64 x.r.2.1, .string x.r.2.2, .int .i64 x.e.1, .int .i64 x.e.2.1, .int .i64 x.e.2.2, .string x.k] 125)
 rw [← hW1] at kb hnew
 have hR1 := (kb.block _ (blkX hR)).trans hR
 have hc := has_any a b x.k W1 hok hk ha hbs hks
 have r0 := blkC hR 0; have r1 := blkC hR 1
 have hRl := blkX hR
 simp only [List.getElem?_toArray, List.getElem?_cons_zero, List.getElem?_cons_succ] at r0 r1
 have hO1 := hO.below kb
 replace kb := Lh kb; replace hnew := Lh hnew; replace hR1 := Lh hR1; replace hO1 := Lh hO1; replace hR := Lh hR; replace hO := Lh hO; replace hok := Lh hok; replace hk := Lh hk
 cases hin : inG (a, b) x.k with
 | false =>
  rw [hin] at hc
  replace hin := Lh hin
  go_enter Tryz.func174, Tryz.ntmps174
  go_wp2_with (fail)
  rw [← hW1]
  replace hW1 := Lh hW1
  refine hc.mono ?_
  rintro e w2 ⟨rfl, b2⟩
  have k2 := Lh (kb.out.trans (b2.mono kb.out.size))
  clear b2 r0 r1
  go_wp2_with (fail)
  go_ret
  exact ⟨B, m, d, rfl, hO.out.below k2.out, Chg.of_below k2.out _, .inl rfl⟩
 | true =>
  rw [hin] at hc
  replace hin := Lh hin
  go_enter Tryz.func174, Tryz.ntmps174
  go_wp2_with (fail)
  rw [← hW1]
  replace hW1 := Lh hW1
  refine hc.mono ?_
  rintro e w2 ⟨rfl, b2⟩
  have k2 := kb.out.trans (b2.mono kb.out.size)
  have hO2 := hO.out.below k2
  have hn2 := (b2.block _ (blkX hnew.out)).trans hnew.out
  have y3 := blkC hn2 3; have y4 := blkC hn2 4; have y5 := blkC hn2 5
  have o0 := blkC hO2.blk 0
  simp only [List.getElem?_toArray, List.getElem?_cons_zero, List.getElem?_cons_succ] at y3 y4 y5 o0
  obtain ⟨B', d', V, hrun, hOV, hO3, hch, hat⟩ := hO2.push (Nat.le_trans hb k2.size) (by omega) x.e
  have v0 := blkC hOV 0
  have vf := blkF hOV
  simp only [List.getElem?_toArray, List.getElem?_cons_zero, List.getElem?_cons_succ] at v0
  have hfin : Chg (fun k => k = O ∨ rowOf B = some k) W (V.setCell ⟨O, 0, none⟩ (.slice B' (m + 1) d')) := (Chg.of_below k2 _).trans hch (fun _ _ q => q)
  have hat' : rowOf B' = rowOf B ∨ ∃ g, rowOf B' = some g ∧ W.heap.size ≤ g := hat.imp id fun ⟨g, q1, q2⟩ => ⟨g, q1, Nat.le_trans k2.size q2⟩
  replace k2 := Lh k2; replace b2 := Lh b2; replace hO2 := Lh hO2; replace hn2 := Lh hn2; replace hO3 := Lh hO3; replace hch := Lh hch; replace hat := Lh hat; replace hOV := Lh hOV; replace hfin := Lh hfin; replace hat' := Lh hat'
  clear r0 r1
  go_wp2_with (fail)
  go_ret
  exact ⟨B', m + 1, d', rfl, hO3.out, hfin.out, hat'.out⟩
end Go.Proofs.YtgnjnpddehdmcaaGreatDoor

namespace Go.Proofs.YtgnjnpddehdmcaaGreatDoor
open Go.RowKit Go.Shelf
set_option linter.unusedSimpArgs false
set_option linter.unusedVariables false
set_option linter.unusedSectionVars false
set_option maxRecDepth 10000
structure DelS (w : World) (A : Option Addr) (R O : Nat) (a b : ByteArray) (L : List Ef) (W : World) : Prop where
 chg : Chg (fun k => rowOf A = some k) w W
 rng : W.heap[R]? = some (.cells #[.string a, .string b] 32 (0, 0))
 out : ∃ B m d, OutB w.heap.size O B m d L W
theorem DelS.below {w W W' : World} {A : Option Addr} {R O : Nat} {a b : ByteArray} {L : List Ef} (h : DelS w A R O a b L W) (hb : Below W.heap.size W W') : DelS w A R O a b L W' := by
 obtain ⟨h1, h2, B, m, d, h3⟩ := h
 exact ⟨h1.thenB hb, (hb.block _ (blkX h2)).trans h2, B, m, d, h3.below hb⟩
def Took2 (w : World) (A : Option Addr) (R O : Nat) (a b : ByteArray) (L : List Ef) (r : Bool) (x : Ef) (W : World) (e : Ending) (w' : World) : Prop :=
 e = .returned (.bool r) ∧ DelS w A R O a b (if r then L ++ [x] else L) w' ∧ (∀ (k : Nat) (cs : Array Value) (f : Nat × Nat), W.heap[k]? = some (.cells cs 125 f) → w'.heap[k]? = some (.cells cs 125 f)) ∧ W.heap.size ≤ w'.heap.size
theorem DelS.took {w W : World} {A : Option Addr} {R O : Nat} {a b : ByteArray} {L : List Ef} (h : DelS w A R O a b L W) (x : En) (hm : L.length ≤ 99999) (hok : okG (a, b) = true) (hk : nameB x.k = true) (ha : a.size ≤ 140737488355328) (hbs : b.size ≤ 140737488355328) (hks : x.k.size ≤ 140737488355328) :
  Calls Tryz.prog 174 #[.agg #[.int .i64 x.r.1, .int .i64 x.r.2.1, .string x.r.2.2, .int .i64 x.e.1, .int .i64 x.e.2.1, .int .i64 x.e.2.2, .string x.k], .pointer (some ⟨R, 0, none⟩), .pointer (some ⟨O, 0, none⟩)] W (Took2 w A R O a b L (inG (a, b) x.k) x.e W) := by
 obtain ⟨h1, h2, B, m, d, h3⟩ := h
 refine (take1_any a b R w.heap.size O B m d L x W h1.size (by rw [← h3.len]; exact hm) h2 h3 hok hk ha hbs hks).mono ?_
 rintro e w' ⟨B', m', d', rfl, q1, q2, q3⟩
 have hOl : w.heap.size ≤ O := h3.ge
 have hBl := fun g (q : rowOf B = some g) => (own_row h3.own g q).1
 refine ⟨rfl, ⟨h1.trans q2 fun k hk q => ?_, ?_, B', m', d', q1⟩, fun k cs f hc => ?_, q2.size⟩
 ·
  rcases q with q | q
  ·
   omega
  ·
   have := hBl k q; omega
 ·
  refine (q2.block R (blkX h2) fun q => ?_).trans h2
  rcases q with q | q
  ·
   rw [q, h3.blk] at h2; injection h2 with h2; injection h2 with _ h2; exact absurd h2 (by decide)
  ·
   exact h3.rowNe h2 (by decide) q
 ·
  refine (q2.block k (blkX hc) fun q => ?_).trans hc
  rcases q with q | q
  ·
   rw [q, h3.blk] at hc; injection hc with hc; injection hc with _ hc; exact absurd hc (by decide)
  ·
   exact h3.rowNe hc (by decide) q
theorem own_typed {W W' : World} {base n c : Nat} {A : Option Addr} {xs : List Value} (h : W.ownsRow base 125 7 (.slice A n c) n xs) (hk : ∀ (k : Nat) (cs : Array Value) (f : Nat × Nat), W.heap[k]? = some (.cells cs 125 f) → W'.heap[k]? = some (.cells cs 125 f)) : W'.ownsRow base 125 7 (.slice A n c) n xs := by
 rcases h.2 with e | ⟨g, cp, cur, e1, e2, hh, r⟩
 ·
  exact ⟨h.1, .inl e⟩
 ·
  exact ⟨h.1, .inr ⟨g, cp, cur, e1, e2, hk _ _ _ hh, r⟩⟩
def Indexed (w : World) (base : Nat) (A : Option Addr) (n c : Nat) (l : List En) (R O : Nat) (a b : ByteArray) (L : List Ef) (e : Ending) (w' : World) : Prop :=
  w'.ownsRow base 125 7 (.slice A n c) n (flat encP l) ∧
  ((e = .returned (.int .i64 (-1)) ∧ (∀ x ∈ l, inG (a, b) x.k = false) ∧ DelS w A R O a b L w') ∨
   (∃ (i : Nat) (x : En), e = .returned (.int .i64 i) ∧ l[i]? = some x ∧ inG (a, b) x.k = true ∧ (∀ y ∈ l.take i, inG (a, b) y.k = false) ∧ DelS w A R O a b (L ++ [x.e]) w'))
set_option maxHeartbeats 8000000 in
theorem index_any {w W : World} {A : Option Addr} {R O : Nat} {a b : ByteArray} {L : List Ef} {base n c : Nat} {l : List En} (h : DelS w A R O a b L W) (hown : W.ownsRow base 125 7 (.slice A n c) n (flat encP l)) (hl : l.length = n) (hn : n ≤ 10000) (hm : L.length ≤ 9999) (hok : okG (a, b) = true) (hkl : ∀ x ∈ l, nameB x.k = true ∧ x.k.size ≤ 140737488355328) (ha : a.size ≤ 140737488355328) (hbs : b.size ≤ 140737488355328) :
  Calls Tryz.prog 237 #[.slice A n c, .func (.func 174) #[] #[.pointer (some ⟨R, 0, none⟩), .pointer (some ⟨O, 0, none⟩)]] W (Indexed w base A n c l R O a b L) := by
 replace h := Lh h; replace hown := Lh hown; replace hl := Lh hl; replace hok := Lh hok; replace hkl := Lh hkl
 go_enter Tryz.func237, Tryz.ntmps237
 go_wp2_with (fail)
 go_loopw [8] (fun i wr => ∃ k : Nat, k ≤ n ∧ i = .int .i64 k ∧ (∀ y ∈ l.take k, inG (a, b) y.k = false) ∧ DelS w A R O a b L wr ∧ wr.ownsRow base 125 7 (.slice A n c) n (flat encP l)) (fun i _ => n - (intOf i).toNat)
 case atStart => exact ⟨0, by omega, rfl, by simp, h.out, hown.out⟩
 case round =>
  revert wr
  intro W1 hrel
  obtain ⟨k, hk, rfl, hno, hS, ho⟩ := hrel
  by_cases hlt : k < n
  ·
   obtain ⟨bb, o, x, rfl, hbl, hx, p0, p1, p2, p3, p4, p5, p6⟩ := PS.at_ (SL.of_own encP_len ho hl.out) hlt
   obtain ⟨hk1, hk2⟩ := hkl.out x (List.mem_of_getElem? hx)
   have hc := hS.took x (by omega) hok.out hk1 ha hbs hk2
   have k0 : (0 : Int) ≤ k := by omega
   have k1 : (k : Int) < n := by omega
   have hfin : inG (a, b) x.k = true → ∀ W2, W2.ownsRow base 125 7 (.slice (some ⟨bb, o, none⟩) n c) n (flat encP l) → DelS w (some ⟨bb, o, none⟩) R O a b (L ++ [x.e]) W2 → Indexed w base (some ⟨bb, o, none⟩) n c l R O a b L (.returned (.int .i64 k)) W2 := fun q W2 q1 q2 => ⟨q1, .inr ⟨k, x, rfl, hx, q, hno, q2⟩⟩
   have hno2 : inG (a, b) x.k = false → ∀ y ∈ l.take (k + 1), inG (a, b) y.k = false := fun q y hy => by
    rw [List.take_add_one, hx] at hy
    simp only [Option.toList, List.mem_append, List.mem_singleton] at hy
    rcases hy with hy | rfl
    ·
     exact hno y hy
    ·
     exact q
   cases hin : inG (a, b) x.k with
   | true =>
    rw [hin] at hc
    have hfin2 := Lh (hfin hin)
    replace hin := Lh hin; replace hS := Lh hS; replace ho := Lh ho; replace hno := Lh hno; replace hx := Lh hx; replace hno2 := Lh hno2; replace hfin := Lh hfin
    go_wp2_with (fail)
    refine hc.mono ?_
    rintro e w2 ⟨rfl, s2, hty, hsz⟩
    have ho2 := Lh (own_typed ho.out hty)
    replace s2 := Lh s2; replace hty := Lh hty
    clear hc
    go_wp2_with (fail)
    go_ret
    exact hfin2.out _ ho2.out s2.out
   | false =>
    rw [hin] at hc
    have hno3 := Lh (hno2 hin)
    replace hin := Lh hin; replace hS := Lh hS; replace ho := Lh ho; replace hno := Lh hno; replace hx := Lh hx; replace hno2 := Lh hno2; replace hfin := Lh hfin
    go_wp2_with (fail)
    refine hc.mono ?_
    rintro e w2 ⟨rfl, s2, hty, hsz⟩
    have ho2 := Lh (own_typed ho.out hty)
    replace s2 := Lh s2; replace hty := Lh hty
    clear hc
    go_wp2_with (fail)
    exact ⟨⟨k + 1, by omega, by go_num, hno3.out, s2.out, ho2.out⟩, by simp [intOf]; omega⟩
  ·
   obtain rfl : k = n := by omega
   rw [List.take_of_length_le (by have := hl.out; omega)] at hno
   have hfin : Indexed w base A k c l R O a b L (.returned (.int .i64 (-1))) W1 := ⟨ho, .inl ⟨rfl, hno, hS⟩⟩
   replace hfin := Lh hfin; replace hS := Lh hS; replace ho := Lh ho; replace hno := Lh hno
   go_wp2_with (fail)
   go_ret
   exact hfin.out
def sets {β : Type} : List β → Nat → List β → List β
 | L, _, [] => L
 | L, o, v :: r => sets (L.set o v) (o + 1) r
theorem sets_list {β : Type} : ∀ (vs : List β) (L : List β) (o : Nat), o + vs.length ≤ L.length → sets L o vs = L.take o ++ vs ++ L.drop (o + vs.length)
 | [], L, o, h => by simp [sets]
 | v :: r, L, o, h => by
  have hl : o < L.length := by simp at h; omega
  rw [sets, sets_list r (L.set o v) (o + 1) (by simp at h ⊢; omega)]
  have e1 : (L.set o v).take (o + 1) = L.take o ++ [v] := by
   rw [List.set_eq_take_append_cons_drop, if_pos hl, List.take_append, List.length_take, Nat.min_eq_left (by omega), List.take_of_length_le (by rw [List.length_take]; omega), show o + 1 - o = 1 from by omega]
   rfl
  have e2 : (L.set o v).drop (o + 1 + r.length) = L.drop (o + (v :: r).length) := by
   rw [List.drop_set_of_lt (by omega)]
   congr 1; simp; omega
  rw [e1, e2]
  simp
theorem set3_list {β : Type} (L : List β) (o : Nat) (a b c : β) (h : o + 3 ≤ L.length) : ((L.set o a).set (o + 1) b).set (o + 2) c = L.take o ++ [a, b, c] ++ L.drop (o + 3) := sets_list [a, b, c] L o h
structure Fill (w : World) (g n : Nat) (l : List Ef) (W : World) : Prop where
 bel : Below w.heap.size w W
 ge : w.heap.size ≤ g
 blk : ∃ cur : Array Value, W.heap[g]? = some (.cells cur 30 (0, 0)) ∧ cur.size = n * 3 ∧ cur.toList.take (l.length * 3) = flat encE l
theorem Fill.keep {w W W' : World} {g n : Nat} {l : List Ef} (h : Fill w g n l W) (hb : Below W.heap.size W W') : Fill w g n l W' := by
 obtain ⟨h1, h2, cur, h3, h4, h5⟩ := h
 exact ⟨h1.trans (hb.mono h1.size), h2, cur, (hb.block g (blkX h3)).trans h3, h4, h5⟩
theorem Fill.put {w W : World} {g n : Nat} {l : List Ef} (h : Fill w g n l W) (x : Ef) (hl : l.length < n) :
  (∀ j, j < 3 → ∃ u, W.cell? ⟨g, l.length * 3 + j, none⟩ = some u) ∧ (∀ j, W.frozen? ⟨g, j, none⟩ = false) ∧
  Fill w g n (l ++ [x]) (((W.setCell ⟨g, l.length * 3, none⟩ (.int .i64 x.1)).setCell ⟨g, l.length * 3 + 1, none⟩ (.int .i64 x.2.1)).setCell ⟨g, l.length * 3 + 2, none⟩ (.int .i64 x.2.2)) := by
 obtain ⟨h1, h2, cur, h3, h4, h5⟩ := h
 refine ⟨fun j hj => ?_, blkF h3, ?_⟩
 ·
  rw [blkC h3]
  exact ⟨_, Array.getElem?_eq_getElem (by omega)⟩
 ·
  refine ⟨?_, h2, _, hpSet (hpSet (hpSet h3)), by simpa using h4, ?_⟩
  ·
   exact ((h1.setCell h2 _).setCell h2 _).setCell h2 _
  ·
   have hq : l.length * 3 + 3 ≤ cur.toList.length := by have hc := Array.length_toList (xs := cur); omega
   simp only [Array.toList_setIfInBounds]
   rw [set3_list cur.toList (l.length * 3) _ _ _ hq, h5, List.length_append, List.length_singleton]
   have hf : (flat encE l).length = l.length * 3 := flat_length encE_len l
   rw [List.append_assoc, List.take_append, hf, List.take_of_length_le (by rw [hf]; omega), show (l.length + 1) * 3 - l.length * 3 = 3 from by omega, flat_app]
   simp [flat, encE]
theorem fill_new (w : World) (n : Nat) (hn : n ≤ 100000) : ∃ W1, (Instr.makeSlice 117 (.int .i64 (n : Int)) (.int .i64 (n : Int))).run Tryz.prog w = .ok (.slice (some ⟨w.heap.size, 0, none⟩) n n) W1 ∧ Fill w w.heap.size n [] W1 := by
 obtain ⟨hu, ⟨i, z, hi, hz0, hz1, hz2, hzc⟩, hp⟩ := elemE
 have hr := run_makeSlice (P := Tryz.prog) w 117 30 i z hu hi hz0 .i64 .i64 n n (by omega) (by omega) (by rw [hz1]; omega) (by rw [hz2]; omega) (by omega)
 rw [Int.toNat_natCast, hz1] at hr
 refine ⟨_, hr, (Below.refl _ _).alloc (Nat.le_refl _) _, Nat.le_refl _, _, hpNew w _, ?_, by simp [flat]⟩
 exact size_madeCells _ _
set_option maxHeartbeats 8000000 in
theorem all_any {base D c : Nat} {size : Int} {A : Option Addr} {P : List En} {w : World} (h : TabP base D size A c P w) :
  Calls Tryz.prog 56 #[.pointer (some ⟨D, 0, none⟩)] w fun e w' => ∃ B m d, e = .returned (.slice B m d) ∧ m = P.length ∧ ES w' B m (P.map En.e) ∧ (∀ g, rowOf B = some g → w.heap.size ≤ g ∧ ∃ cs, w'.heap[g]? = some (.cells cs 30 (0, 0))) ∧ Below w.heap.size w w' := by
 have hv := valid_any h
 have hsz := h.sz
 have hle := h.le
 have c2 := blkC h.blk 2
 simp only [List.getElem?_toArray, List.getElem?_cons_zero, List.getElem?_cons_succ] at c2
 have hDl := h.lt
 replace h := Lh h
 go_enter Tryz.func56, Tryz.ntmps56
 go_wp2_with (fail)
 refine hv.mono ?_
 rintro e w1 ⟨rfl, rfl⟩
 obtain ⟨W1, hmk, hF⟩ := fill_new w1 P.length (by omega)
 have c2' := (hF.bel.cell (p := ⟨D, 2, none⟩) hDl).trans c2
 have hps := h.out.ps
 obtain ⟨g, hg⟩ : ∃ g, g = w1.heap.size := ⟨_, rfl⟩
 rw [← hg] at hmk hF
 replace hps := Lh hps; replace hg := Lh hg; replace hF := Lh hF
 go_wp2_with (fail)
 clear hmk c2 c2' hv
 go_loopw [20] (fun i wr => ∃ k : Nat, k ≤ P.length ∧ i = .int .i64 k ∧ Fill w1 g P.length ((P.take k).map En.e) wr) (fun i _ => P.length - (intOf i).toNat)
 case atStart => exact ⟨0, by omega, rfl, hF.out⟩
 case round =>
  revert wr
  intro W2 hrel
  obtain ⟨k, hk, rfl, hF2⟩ := hrel
  have hlk : ((P.take k).map En.e).length = k := by rw [List.length_map, List.length_take]; omega
  by_cases hlt : k < P.length
  ·
   obtain ⟨b, o, x, rfl, hbl, hx, p0, p1, p2, p3, p4, p5, p6⟩ := PS.at_ (SL.keep hps.out hF2.bel) hlt
   have k0 : (0 : Int) ≤ k := by omega
   have k1 : (k : Int) < P.length := by omega
   have kb := (Below.refl W2.heap.size W2).alloc (Nat.le_refl _) (.cells #[.int .i64 x.r.1, .int .i64 x.r.2.1, .string x.r.2.2, .int .i64 x.e.1, .int .i64 x.e.2.1, .int .i64 x.e.2.2, .string x.k] 125)
   have hgl : g < W2.heap.size := by obtain ⟨_, _, cur, hc, _⟩ := hF2; exact blkX hc
   obtain ⟨hc, hz, hF3⟩ := hF2.put x.e (by omega)
   rw [hlk] at hc hF3
   obtain ⟨u0, q0⟩ := hc 0 (by omega)
   obtain ⟨u1, q1⟩ := hc 1 (by omega)
   obtain ⟨u2, q2⟩ := hc 2 (by omega)
   rw [Nat.add_zero] at q0
   have z0 := hz (k * 3)
   have z1 := hz (k * 3 + 1)
   have z2 := hz (k * 3 + 2)
   have htk : (P.take k).map En.e ++ [x.e] = (P.take (k + 1)).map En.e := by rw [List.take_add_one, hx, List.map_append]; rfl
   rw [htk] at hF3
   replace hF2 := Lh hF2; replace hF3 := Lh hF3; replace hx := Lh hx; replace htk := Lh htk; replace hlk := Lh hlk; replace kb := Lh kb; replace hz := Lh hz
   clear hc
   go_wp2_with (fail)
   exact ⟨⟨k + 1, by omega, by go_num, hF3.out.keep ((Below.refl _ _).alloc (Nat.le_refl _) _)⟩, by simp [intOf]; omega⟩
  ·
   obtain rfl : k = P.length := by omega
   rw [List.take_of_length_le (by omega)] at hF2
   obtain ⟨f1, f2, cur, f3, f4, f5⟩ := hF2
   have hES : ES W2 (some ⟨g, 0, none⟩) P.length (P.map En.e) := by
    refine SL.of_own (base := w1.heap.size) (c := P.length) encE_len (own_mk f2 f3 (Nat.le_refl _) (by unfold maxLen; omega) f4 (by rw [flat_length encE_len, List.length_map]) ?_) (by simp)
    rw [List.length_map] at f5; exact f5
   replace hES := Lh hES; replace f1 := Lh f1; replace f3 := Lh f3; replace f4 := Lh f4; replace f5 := Lh f5; replace hlk := Lh hlk
   go_wp2_with (fail)
   go_ret
   exact ⟨some ⟨g, 0, none⟩, P.length, P.length, rfl, rfl, hES.out, fun g' e => by injection e with e; simp only at e; subst e; exact ⟨by omega, cur, f3.out⟩, f1.out⟩
attribute [local go_sem ↓] hideClear
attribute [-go_sem] sliced
theorem set7_list (L : List Value) (o : Nat) (x : En) (h : o + 7 ≤ L.length) : sets L o (encP x) = L.take o ++ encP x ++ L.drop (o + 7) := sets_list (encP x) L o h
structure Part (a b : ByteArray) (g c : Nat) (l : List En) (i j : Nat) (cur : Array Value) (W : World) : Prop where
 blk : W.heap[g]? = some (.cells cur 125 (0, 0))
 size : cur.size = c * 7
 cap : l.length ≤ c
 len : ((l.take j).filter fun x => !inG (a, b) x.k).length = i
 lo : cur.toList.take (i * 7) = flat encP ((l.take j).filter fun x => !inG (a, b) x.k)
 hi : (cur.toList.drop (j * 7)).take ((l.length - j) * 7) = flat encP (l.drop j)
theorem Part.keep {a b : ByteArray} {g c i j : Nat} {l : List En} {cur : Array Value} {W W' : World} (h : Part a b g c l i j cur W) (hb : W'.heap[g]? = W.heap[g]?) : Part a b g c l i j cur W' := ⟨hb.trans h.blk, h.size, h.cap, h.len, h.lo, h.hi⟩
theorem Part.at_ {a b : ByteArray} {g c i j : Nat} {l : List En} {cur : Array Value} {W : World} (h : Part a b g c l i j cur W) {x : En} (hx : l[j]? = some x) : ∀ (t : Nat) (u : Value), (encP x)[t]? = some u → W.cell? ⟨g, j * 7 + t, none⟩ = some u := by
 intro t u hu
 have ht : t < 7 := by have := (List.getElem?_eq_some_iff.1 hu).1; rwa [encP_len] at this
 have hj : j < l.length := (List.getElem?_eq_some_iff.1 hx).1
 have h1 : (flat encP (l.drop j))[0 * 7 + t]? = (encP x)[t]? := flat_get encP_len (l.drop j) 0 x t (by rw [List.getElem?_drop]; exact hx) ht
 rw [Nat.zero_mul, Nat.zero_add, hu, ← h.hi, List.getElem?_take] at h1
 split at h1
 ·
  rw [List.getElem?_drop, Array.getElem?_toList] at h1
  rw [blkC h.blk]; exact h1
 ·
  cases h1
theorem filt_yes {a b : ByteArray} {l : List En} {j : Nat} {x : En} (hx : l[j]? = some x) (hin : inG (a, b) x.k = true) : (l.take (j + 1)).filter (fun x => !inG (a, b) x.k) = (l.take j).filter (fun x => !inG (a, b) x.k) ∧ (l.take (j + 1)).filter (fun x => inG (a, b) x.k) = (l.take j).filter (fun x => inG (a, b) x.k) ++ [x] := by
 rw [List.take_add_one, hx, List.filter_append, List.filter_append]
 simp [hin]
theorem filt_no {a b : ByteArray} {l : List En} {j : Nat} {x : En} (hx : l[j]? = some x) (hin : inG (a, b) x.k = false) : (l.take (j + 1)).filter (fun x => !inG (a, b) x.k) = (l.take j).filter (fun x => !inG (a, b) x.k) ++ [x] ∧ (l.take (j + 1)).filter (fun x => inG (a, b) x.k) = (l.take j).filter (fun x => inG (a, b) x.k) := by
 rw [List.take_add_one, hx, List.filter_append, List.filter_append]
 simp [hin]
theorem hi_next {l : List En} {j : Nat} {cur : Array Value} (hj : j < l.length) (h : (cur.toList.drop (j * 7)).take ((l.length - j) * 7) = flat encP (l.drop j)) : (cur.toList.drop ((j + 1) * 7)).take ((l.length - (j + 1)) * 7) = flat encP (l.drop (j + 1)) := by
 have h1 := congrArg (List.drop 7) h
 rw [List.drop_take, List.drop_drop] at h1
 have e1 : (l.length - j) * 7 - 7 = (l.length - (j + 1)) * 7 := by omega
 have e2 : j * 7 + 7 = (j + 1) * 7 := by omega
 rw [e1, e2] at h1
 rw [h1]
 have := (flat_cut (enc := encP) (k := 7) encP_len (l.drop j) 1 (by simp; omega)).2
 rw [Nat.one_mul] at this
 rw [this, List.drop_drop]
theorem Part.skip {a b : ByteArray} {g c i j : Nat} {l : List En} {cur : Array Value} {W : World} (h : Part a b g c l i j cur W) {x : En} (hx : l[j]? = some x) (hin : inG (a, b) x.k = true) : Part a b g c l i (j + 1) cur W := by
 have hj : j < l.length := (List.getElem?_eq_some_iff.1 hx).1
 exact ⟨h.blk, h.size, h.cap, by rw [(filt_yes hx hin).1]; exact h.len, by rw [(filt_yes hx hin).1]; exact h.lo, hi_next hj h.hi⟩
theorem Part.put {a b : ByteArray} {g c i j : Nat} {l : List En} {cur : Array Value} {W : World} (h : Part a b g c l i j cur W) {x : En} (hx : l[j]? = some x) (hin : inG (a, b) x.k = false) (hij : i ≤ j) :
  ∃ cur', Part a b g c l (i + 1) (j + 1) cur' ((((((((W).setCell ⟨g, i * 7, none⟩ (.int .i64 x.r.1)).setCell ⟨g, i * 7 + 1, none⟩ (.int .i64 x.r.2.1)).setCell ⟨g, i * 7 + 2, none⟩ (.string x.r.2.2)).setCell ⟨g, i * 7 + 3, none⟩ (.int .i64 x.e.1)).setCell ⟨g, i * 7 + 4, none⟩ (.int .i64 x.e.2.1)).setCell ⟨g, i * 7 + 5, none⟩ (.int .i64 x.e.2.2)).setCell ⟨g, i * 7 + 6, none⟩ (.string x.k)) := by
 have hj : j < l.length := (List.getElem?_eq_some_iff.1 hx).1
 have hcap := h.cap
 have hsz := h.size
 have hlen : cur.toList.length = c * 7 := by rw [Array.length_toList (xs := cur)]; exact hsz
 have hcl : ∀ (W : World) (C : Array Value), W.heap[g]? = some (.cells C 125 (0, 0)) → ∀ o v, (W.setCell ⟨g, o, none⟩ v).heap[g]? = some (.cells (C.setIfInBounds o v) 125 (0, 0)) := fun W C hC o v => hpSet hC
 have hblk := hcl _ _ (hcl _ _ (hcl _ _ (hcl _ _ (hcl _ _ (hcl _ _ (hcl _ _ h.blk (i * 7) (.int .i64 x.r.1)) (i * 7 + 1) (.int .i64 x.r.2.1)) (i * 7 + 2) (.string x.r.2.2)) (i * 7 + 3) (.int .i64 x.e.1)) (i * 7 + 4) (.int .i64 x.e.2.1)) (i * 7 + 5) (.int .i64 x.e.2.2)) (i * 7 + 6) (.string x.k)
 refine ⟨_, ⟨hblk, by simpa using hsz, hcap, ?_, ?_, ?_⟩⟩
 ·
  rw [(filt_no hx hin).1, List.length_append, h.len]; rfl
 ·
  have hs := set7_list cur.toList (i * 7) x (by omega)
  have hl : ((((((((cur).setIfInBounds (i * 7) (.int .i64 x.r.1)).setIfInBounds (i * 7 + 1) (.int .i64 x.r.2.1)).setIfInBounds (i * 7 + 2) (.string x.r.2.2)).setIfInBounds (i * 7 + 3) (.int .i64 x.e.1)).setIfInBounds (i * 7 + 4) (.int .i64 x.e.2.1)).setIfInBounds (i * 7 + 5) (.int .i64 x.e.2.2)).setIfInBounds (i * 7 + 6) (.string x.k)).toList = sets cur.toList (i * 7) (encP x) := by simp [sets, encP]
  rw [hl, hs, (filt_no hx hin).1, flat_app]
  have hlt : (cur.toList.take (i * 7)).length = i * 7 := by rw [List.length_take]; omega
  rw [List.append_assoc, List.take_append, hlt, List.take_of_length_le (by omega), h.lo, show (i + 1) * 7 - i * 7 = 7 from by omega]
  simp [flat, encP]
 ·
  have hs := set7_list cur.toList (i * 7) x (by omega)
  have hl : ((((((((cur).setIfInBounds (i * 7) (.int .i64 x.r.1)).setIfInBounds (i * 7 + 1) (.int .i64 x.r.2.1)).setIfInBounds (i * 7 + 2) (.string x.r.2.2)).setIfInBounds (i * 7 + 3) (.int .i64 x.e.1)).setIfInBounds (i * 7 + 4) (.int .i64 x.e.2.1)).setIfInBounds (i * 7 + 5) (.int .i64 x.e.2.2)).setIfInBounds (i * 7 + 6) (.string x.k)).toList = sets cur.toList (i * 7) (encP x) := by simp [sets, encP]
  have hlt : (cur.toList.take (i * 7) ++ encP x).length = i * 7 + 7 := by rw [List.length_append, List.length_take, encP_len]; omega
  have hd : (cur.toList.take (i * 7) ++ encP x ++ cur.toList.drop (i * 7 + 7)).drop ((j + 1) * 7) = cur.toList.drop ((j + 1) * 7) := by
   rw [List.drop_append, hlt, List.drop_eq_nil_of_le (by omega), List.nil_append, List.drop_drop, show i * 7 + 7 + ((j + 1) * 7 - (i * 7 + 7)) = (j + 1) * 7 from by omega]
  rw [hl, hs, hd]
  exact hi_next hj h.hi
theorem DelS.set {w W : World} {A : Option Addr} {R O : Nat} {a b : ByteArray} {L : List Ef} {g o : Nat} {v : Value} {cur : Array Value} (h : DelS w A R O a b L W) (hA : rowOf A = some g) (hg : W.heap[g]? = some (.cells cur 125 (0, 0))) : DelS w A R O a b L (W.setCell ⟨g, o, none⟩ v) := by
 obtain ⟨h1, h2, B, m, d, h3⟩ := h
 have hR : R ≠ g := fun q => by rw [q, hg] at h2; injection h2 with h2; injection h2 with _ h2; exact absurd h2 (by decide)
 refine ⟨h1.setCell (fun _ => hA) _, (hpFar hR).trans h2, B, m, d, h3.keep (by simp [World.setCell]) fun k hk q => hpFar ?_⟩
 intro hkg
 have hkg' : k = g := hkg
 subst hkg'
 rcases q with q | q
 ·
  have := h3.blk
  rw [← q, hg] at this; injection this with this; injection this with _ this; exact absurd this (by decide)
 ·
  exact h3.rowNe hg (by decide) q
end Go.Proofs.YtgnjnpddehdmcaaGreatDoor

namespace Go.Proofs.YtgnjnpddehdmcaaGreatDoor
open Go.RowKit Go.Shelf
set_option linter.unusedSimpArgs false
set_option linter.unusedVariables false
set_option linter.unusedSectionVars false
set_option maxRecDepth 10000
theorem new_ok (size : Int) (base : Nat) (w : World) (h0 : 0 ≤ size) (h1 : size ≤ 2048) (hb : base ≤ w.heap.size) : Calls Tryz.prog 33 #[.int .i64 size] w fun e w' => e = .returned (.tuple #[.pointer (some ⟨w.heap.size, 0, none⟩), .int .i64 0]) ∧ TabP base w.heap.size size none 0 [] w' ∧ Below w.heap.size w w' := by
 have hnew := hpNew w (.cells #[.bool true, .int .i64 size, .slice none 0 0] 153)
 have kb := (Below.refl w.heap.size w).alloc (Nat.le_refl _) (.cells #[.bool true, .int .i64 size, .slice none 0 0] 153)
 replace hnew := Lh hnew; replace kb := Lh kb
 have d0 : ¬ size < 0 := by omega
 have d1 : ¬ 2048 < size := by omega
 go_enter Tryz.func33, Tryz.ntmps33
 go_wp2_with (fail)
 refine bodyPost_ret (results_tmp2 rfl _ _ _) rfl ?_
 exact ⟨rfl, ⟨hb, hnew.out, World.ownsRow_nil _ _ _ _, by simp; omega, h1⟩, kb.out⟩
section
variable {base D c : Nat} {size : Int} {A : Option Addr} {P : List En} {w : World}
theorem room_any (h : TabP base D size A c P w) (h0 : 0 ≤ size) : Calls Tryz.prog 66 #[.pointer (some ⟨D, 0, none⟩)] w fun e w' => e = .returned (.int .i64 (size - P.length)) ∧ Below w.heap.size w w' := by
  have hv := valid_any h
  have c1 := blkC h.blk 1
  have c2 := blkC h.blk 2
  have hsz := h.sz
  have hle := h.le
  simp only [List.getElem?_toArray, List.getElem?_cons_zero, List.getElem?_cons_succ] at c1 c2
  replace h := Lh h
  go_enter Tryz.func66, Tryz.ntmps66
  go_wp2_with (fail)
  refine hv.mono ?_
  rintro e w2 ⟨rfl, rfl⟩
  go_wp2_with (fail)
  first
    | (go_quiet (fail)
       go_wp2_with (fail)
       go_ret
       exact ⟨rfl, below_drewN (Below.refl _ _) _⟩)
    | (go_ret
       exact ⟨rfl, Below.refl _ _⟩)
theorem get_none {P : List En} {y : Ef} (h : hasB P y = false) : getR P y = (0, 0, ⟨#[]⟩) ∧ getK P y = ⟨#[]⟩ := by
 unfold hasB at h
 unfold getR getK
 cases hl : look P y with
 | none => exact ⟨rfl, rfl⟩
 | some z => rw [hl] at h; cases h
theorem get_some {P : List En} {y : Ef} (ho : Ord P) (h : hasB P y = true) : ∃ z, P[pos P y]? = some z ∧ z.e = y ∧ getR P y = z.r ∧ getK P y = z.k := by
 have hp := look_pos ho y
 unfold hasB at h
 unfold getR getK
 cases hz : P[pos P y]? with
 | none => rw [hz] at hp; rw [hp] at h; cases h
 | some z =>
  rw [hz] at hp
  by_cases q : z.e = y
  ·
   simp only [if_pos q] at hp
   exact ⟨z, rfl, q, by rw [hp], by rw [hp]⟩
  ·
   simp only [if_neg q] at hp
   rw [hp] at h; cases h
set_option maxHeartbeats 4000000 in
theorem get_any (h : TabP base D size A c P w) (ho : Ord P) (y : Ef) : Calls Tryz.prog 63 #[.pointer (some ⟨D, 0, none⟩), .agg #[.int .i64 y.1, .int .i64 y.2.1, .int .i64 y.2.2]] w fun e w' => ∃ z : En, e = .returned (.tuple #[.agg #[.int .i64 z.r.1, .int .i64 z.r.2.1, .string z.r.2.2, .int .i64 z.e.1, .int .i64 z.e.2.1, .int .i64 z.e.2.2, .string z.k], .bool (hasB P y)]) ∧ z.r = getR P y ∧ z.k = getK P y ∧ Below w.heap.size w w' := by
 have kb := ((Below.refl w.heap.size w).alloc (Nat.le_refl _) (.cells #[.int .i64 y.1, .int .i64 y.2.1, .int .i64 y.2.2] 30)).alloc (by simp) (.cells #[.int .i64 0, .int .i64 0, .string ⟨#[]⟩, .int .i64 0, .int .i64 0, .int .i64 0, .string ⟨#[]⟩] 125)
 obtain ⟨W1, hW1⟩ : ∃ W1, W1 = (w.alloc (.cells #[.int .i64 y.1, .int .i64 y.2.1, .int .i64 y.2.2] 30)).alloc (.cells #[.int .i64 0, .int .i64 0, .string ⟨#[]⟩, .int .i64 0, .int .i64 0, .int .i64 0, .string ⟨#[]⟩] 125) := ⟨_, rfl⟩
 have hZ : W1.heap[w.heap.size + 1]? = some (.cells #[.int .i64 0, .int .i64 0, .string ⟨#[]⟩, .int .i64 0, .int .i64 0, .int .i64 0, .string ⟨#[]⟩] 125 (0, 0)) := by
  have := hpNew (w.alloc (.cells #[.int .i64 y.1, .int .i64 y.2.1, .int .i64 y.2.2] 30)) (.cells #[.int .i64 0, .int .i64 0, .string ⟨#[]⟩, .int .i64 0, .int .i64 0, .int .i64 0, .string ⟨#[]⟩] 125)
  rw [hW1]; simpa using this
 rw [← hW1] at kb
 have hT := h.below kb
 have hf := find_any hT ho y
 replace h := Lh h; replace kb := Lh kb; replace hT := Lh hT; replace hZ := Lh hZ
 go_enter Tryz.func63, Tryz.ntmps63
 go_wp2_with (fail)
 rw [← hW1]
 replace hW1 := Lh hW1
 refine hf.mono ?_
 rintro e w2 ⟨rfl, b2⟩
 have hZ2 := (b2.block _ (blkX hZ.out)).trans hZ.out
 have hT2 := hT.out.below b2
 have kk := kb.out.trans (b2.mono kb.out.size)
 have z0 := blkC hZ2 0; have z1 := blkC hZ2 1; have z2 := blkC hZ2 2; have z3 := blkC hZ2 3; have z4 := blkC hZ2 4; have z5 := blkC hZ2 5; have z6 := blkC hZ2 6
 have zf := blkF hZ2
 have zx := blkX hZ2
 simp only [List.getElem?_toArray, List.getElem?_cons_zero, List.getElem?_cons_succ] at z0 z1 z2 z3 z4 z5 z6
 have hbs : w.heap.size ≤ w.heap.size + 1 := by omega
 cases hh : hasB P y with
 | false =>
  obtain ⟨g1, g2⟩ := get_none hh
  replace hh := Lh hh; replace hZ2 := Lh hZ2; replace hT2 := Lh hT2; replace kk := Lh kk; replace b2 := Lh b2; replace g1 := Lh g1; replace g2 := Lh g2
  go_wp2_with (fail)
  refine bodyPost_ret (by simp [results, Tryz.results63, go_sem, *]; try with_reducible rfl) rfl ?_
  exact ⟨⟨(0, 0, 0), ⟨#[]⟩, (0, 0, ⟨#[]⟩)⟩, by rw [hh.out], g1.out.symm, g2.out.symm, by (repeat (refine Below.setCell ?_ hbs _)); exact kk.out⟩
 | true =>
  obtain ⟨z, hz, hze, g1, g2⟩ := get_some ho hh
  have hi : pos P y < P.length := (List.getElem?_eq_some_iff.1 hz).1
  obtain ⟨b, o, z', rfl, hbl, hz', p0, p1, p2, p3, p4, p5, p6⟩ := PS.at_ hT2.ps hi
  rw [hz] at hz'
  injection hz' with hz'
  subst hz'
  have d2 := blkC hT2.blk 2
  simp only [List.getElem?_toArray, List.getElem?_cons_zero, List.getElem?_cons_succ] at d2
  have i0 : (0 : Int) ≤ pos P y := by omega
  have i1 : (pos P y : Int) < P.length := by omega
  replace hh := Lh hh; replace hZ2 := Lh hZ2; replace hT2 := Lh hT2; replace kk := Lh kk; replace b2 := Lh b2; replace g1 := Lh g1; replace g2 := Lh g2; replace hz := Lh hz; replace hze := Lh hze
  go_wp2_with (fail)
  refine bodyPost_ret (by simp [results, Tryz.results63, go_sem, *]; try with_reducible rfl) rfl ?_
  exact ⟨z, by rw [hh.out], g1.out.symm, g2.out.symm, by (repeat (refine Below.setCell ?_ hbs _)); exact kk.out⟩
set_option maxHeartbeats 4000000 in
theorem Get_any (h : TabP base D size A c P w) (ho : Ord P) (y : Ef) : Calls Tryz.prog 25 #[.pointer (some ⟨D, 0, none⟩), .agg #[.int .i64 y.1, .int .i64 y.2.1, .int .i64 y.2.2]] w fun e w' => e = .returned (.tuple #[.agg #[.int .i64 (getR P y).1, .int .i64 (getR P y).2.1, .string (getR P y).2.2], .bool (hasB P y)]) ∧ Below w.heap.size w w' := by
 have kb := ((Below.refl w.heap.size w).alloc (Nat.le_refl _) (.cells #[.int .i64 y.1, .int .i64 y.2.1, .int .i64 y.2.2] 30)).alloc (by simp) (.cells #[.int .i64 0, .int .i64 0, .string ⟨#[]⟩] 52)
 obtain ⟨W1, hW1⟩ : ∃ W1, W1 = (w.alloc (.cells #[.int .i64 y.1, .int .i64 y.2.1, .int .i64 y.2.2] 30)).alloc (.cells #[.int .i64 0, .int .i64 0, .string ⟨#[]⟩] 52) := ⟨_, rfl⟩
 have hZ : W1.heap[w.heap.size + 1]? = some (.cells #[.int .i64 0, .int .i64 0, .string ⟨#[]⟩] 52 (0, 0)) := by
  have := hpNew (w.alloc (.cells #[.int .i64 y.1, .int .i64 y.2.1, .int .i64 y.2.2] 30)) (.cells #[.int .i64 0, .int .i64 0, .string ⟨#[]⟩] 52)
  rw [hW1]; simpa using this
 rw [← hW1] at kb
 have hT := h.below kb
 have hf := get_any hT ho y
 generalize getR P y = gr at *
 generalize hasB P y = hb at *
 replace h := Lh h; replace kb := Lh kb; replace hT := Lh hT; replace hZ := Lh hZ
 go_enter Tryz.func25, Tryz.ntmps25
 go_wp2_with (fail)
 rw [← hW1]
 replace hW1 := Lh hW1
 refine hf.mono ?_
 rintro e w2 ⟨z, rfl, rfl, hk, b2⟩
 have hZ2 := (b2.block _ (blkX hZ.out)).trans hZ.out
 have kk := kb.out.trans (b2.mono kb.out.size)
 have z0 := blkC hZ2 0; have z1 := blkC hZ2 1; have z2 := blkC hZ2 2
 have zf := blkF hZ2
 have zx := blkX hZ2
 simp only [List.getElem?_toArray, List.getElem?_cons_zero, List.getElem?_cons_succ] at z0 z1 z2
 have hbs : w.heap.size ≤ w.heap.size + 1 := by omega
 replace hZ2 := Lh hZ2; replace kk := Lh kk; replace b2 := Lh b2; replace hk := Lh hk
 go_wp2_with (fail)
 refine bodyPost_ret (by simp [results, Tryz.results25, go_sem, *]; try with_reducible rfl) rfl ?_
 exact ⟨rfl, Below.alloc (by (repeat (refine Below.setCell ?_ hbs _)); exact kk.out) (by have := kk.out.size; simp; omega) _⟩
set_option maxHeartbeats 4000000 in
theorem Key_any (h : TabP base D size A c P w) (ho : Ord P) (y : Ef) : Calls Tryz.prog 57 #[.pointer (some ⟨D, 0, none⟩), .agg #[.int .i64 y.1, .int .i64 y.2.1, .int .i64 y.2.2]] w fun e w' => e = .returned (.tuple #[.string (getK P y), .bool (hasB P y)]) ∧ Below w.heap.size w w' := by
 have kb := (Below.refl w.heap.size w).alloc (Nat.le_refl _) (.cells #[.int .i64 y.1, .int .i64 y.2.1, .int .i64 y.2.2] 30)
 have hT := h.below kb
 have hf := get_any hT ho y
 generalize getK P y = gk at *
 generalize hasB P y = hb at *
 replace h := Lh h; replace kb := Lh kb; replace hT := Lh hT
 go_enter Tryz.func57, Tryz.ntmps57
 go_wp2_with (fail)
 refine hf.mono ?_
 rintro e w2 ⟨z, rfl, hr, rfl, b2⟩
 have kk := kb.out.trans (b2.mono kb.out.size)
 replace kk := Lh kk; replace b2 := Lh b2; replace hr := Lh hr
 go_wp2_with (fail)
 refine bodyPost_ret (results_tmp2 rfl _ _ _) rfl ?_
 exact ⟨rfl, kk.out.alloc kk.out.size _⟩
end
end Go.Proofs.YtgnjnpddehdmcaaGreatDoor
