/- other. -/
import Derived.Test.YtmmiknlpndjdlaaGreatDoorSta
import Derived.Test.YtmmiknlpndjdlaaGreatDoorShl
import Derived.Test.YtmmiknlpndjdlaaGreatDoorWkP
namespace Go.Proofs.YtmmiknlpndjdlaaGreatDoor
open Go.RowKit Go.Shelf
set_option linter.unusedSimpArgs false
set_option linter.unusedVariables false
set_option linter.unusedSectionVars false
set_option maxRecDepth 10000
set_option maxHeartbeats 16000000 in
theorem other_any (x : Sh) (c : Cd) (AR : Option Addr) (cR : Nat) (A1 : Option Addr) (c1 : Nat) (A2 : Option Addr) (c2 : Nat) (A3 : Option Addr) (c3 : Nat) (AG : Option Addr) (cG : Nat) (AT : Option Addr) (cT : Nat) (v : World) (hm : SL encM 7 v A3 x.mem.length x.mem) (hn : x.mem.length ≤ 1000000) : Calls Tryz.prog 8 #[StaE x AR cR A1 c1 A2 c2 A3 c3 AG cG AT cT, .agg (cdV c)] v fun e w' => e = .returned (.bool (otherB x.mem c)) ∧ Below v.heap.size v w' := by
 unfold StaE
 obtain ⟨W1, hW1⟩ : ∃ W1, W1 = ((v.alloc (.cells #[.int .i64 x.group, .int .i64 x.app, .slice AR x.own.length cR, .slice A1 x.cnt.length c1, .slice A2 x.cnt.length c2, .slice A3 x.mem.length c3, .slice AG x.giv.length cG, .slice AT x.tak.length cT] 51)).alloc (.cells (cdV c) 39)) := ⟨_, rfl⟩
 have k1 : Below v.heap.size v W1 := by rw [hW1]; exact ((Below.refl _ v).alloc (Nat.le_refl _) _).alloc (by simp <;> omega) _
 have b0 : W1.heap[v.heap.size]? = some (.cells #[.int .i64 x.group, .int .i64 x.app, .slice AR x.own.length cR, .slice A1 x.cnt.length c1, .slice A2 x.cnt.length c2, .slice A3 x.mem.length c3, .slice AG x.giv.length cG, .slice AT x.tak.length cT] 51 (0, 0)) := by rw [hW1]; repeat (first | exact hpNewAt _ (by simp) | exact hpNew _ _ | refine (hpOld _ (by simp <;> omega)).trans ?_)
 have b1 : W1.heap[v.heap.size + 1]? = some (.cells (cdV c) 39 (0, 0)) := by rw [hW1]; repeat (first | exact hpNewAt _ (by simp) | exact hpNew _ _ | refine (hpOld _ (by simp <;> omega)).trans ?_)
 have hm1 := SL.keep hm k1
 replace hm1 := Lib.hid hm1; replace k1 := Lib.hid k1; replace b0 := Lib.hid b0; replace b1 := Lib.hid b1
 clear hm
 go_enter Tryz.func8, Tryz.ntmps8
 go_wp2_with (fail)
 rw [← hW1]
 replace hW1 := Lib.hid hW1
 go_loopw [5] (fun i wr => ∃ j : Nat, j ≤ x.mem.length ∧ i = .int .i64 j ∧ Below W1.heap.size W1 wr ∧ ∀ z ∈ x.mem.take j, (decide (z.e.1 = c.e.1) && decide (z.e.2.1 = c.e.2.1) && !decide (z.k = c.key)) = false) (fun i _ => x.mem.length - (intOf i).toNat)
 case atStart => exact ⟨0, by omega, rfl, by first | exact Below.refl _ _ | (rw [hW1.out]; exact Below.refl _ _), by simp⟩
 case round =>
  revert wr
  intro X hrel
  obtain ⟨j, hj, rfl, hX, hno⟩ := hrel
  have kX := Lib.hid (k1.out.trans (hX.mono k1.out.size))
  have hmX := SL.keep hm1.out hX
  have q0 := (hX.block _ (blkX b0.out)).trans b0.out
  have q1 := (hX.block _ (blkX b1.out)).trans b1.out
  have t5 : X.cell? ⟨v.heap.size, 5, none⟩ = some (.slice A3 x.mem.length c3) := blkC q0 5
  have tx := blkX q0
  replace hno := Lib.hid hno; replace hX := Lib.hid hX; replace q0 := Lib.hid q0; replace q1 := Lib.hid q1
  by_cases hlt : j < x.mem.length
  ·
   obtain ⟨b, o, y, rfl, hbl, hx, hcl⟩ := SL.at_ hmX hlt
   have s0 := hcl 0 _ rfl; have s1 := hcl 1 _ rfl; have s3 := hcl 3 _ rfl
   rw [Nat.add_zero] at s0
   clear hcl
   replace hmX := Lib.hid hmX; replace hx := Lib.hid hx
   have j0 : (0 : Int) ≤ j := by omega
   have j1 : (j : Int) < (x.mem.length : Int) := by omega
   obtain ⟨Y, hY⟩ : ∃ W, W = X.drew := ⟨_, rfl⟩
   have bY : Below X.heap.size X Y := by rw [hY]; exact (Below.refl _ _).drew
   have kY := Lib.hid (hX.out.trans (bY.mono hX.out.size))
   have rY := Lib.hid (show Below X.heap.size X Y from bY)
   clear bY
   replace hY := Lib.hid hY
   obtain ⟨⟨y0, y1, y2⟩, yk, yr⟩ := y
   simp only at s0 s1 s3
   by_cases e1 : y0 = c.e.1
   ·
    have e1' : (y0 = c.e.1) = True := eq_true e1
    by_cases e2 : y1 = c.e.2.1
    ·
     have e2' : (y1 = c.e.2.1) = True := eq_true e2
     by_cases e3 : yk = c.key
     ·
      subst e3
      as_aux_lemma =>
      go_wp2_with (fail)
      refine wp_region_held_drew (S := (fun W' : World => Below X.heap.size X W')) (by kernel_rfl) ?_ (fun hH => ?_)
      ·
       try rw [← hY.out]
       exact rY.out
      refine tl 0 hH ?_
      refine tk (i := 1) (v := ?_) (hy := .inl ⟨by rfl, by intro w hSw; have u5 : w.cell? ⟨v.heap.size, 5, none⟩ = some (.slice (some ⟨b, o, none⟩) x.mem.length c3) := (hSw.cell (p := ⟨v.heap.size, _, none⟩) tx).trans t5; go_simp; first | done | with_reducible rfl⟩) (hS := hH) (h := ?_)
      refine tl 2 hH ?_
      refine tl 3 hH ?_
      refine tl 4 hH ?_
      refine tl 5 hH ?_
      refine tk (i := 6) (v := ?_) (hy := .inl ⟨by rfl, by intro w hSw; have u0 := (hSw.cell (p := ⟨b, _, none⟩) hbl).trans s0; go_simp; first | done | with_reducible rfl⟩) (hS := hH) (h := ?_)
      refine tl 7 hH ?_
      refine tl 8 hH ?_
      refine tk (i := 9) (v := ?_) (hy := .inl ⟨by rfl, by intro w hSw; have ua : w.cell? ⟨v.heap.size + 1, 3, none⟩ = some (.int .i64 c.e.1) := (hSw.cell (p := ⟨v.heap.size + 1, _, none⟩) (blkX q1.out)).trans (blkC q1.out 3); go_simp; first | done | with_reducible rfl⟩) (hS := hH) (h := ?_)
      refine tl 10 hH ?_
      refine tl 11 hH ?_
      refine tl 12 hH ?_
      refine tk (i := 13) (v := ?_) (hy := .inl ⟨by rfl, by intro w hSw; have u5 : w.cell? ⟨v.heap.size, 5, none⟩ = some (.slice (some ⟨b, o, none⟩) x.mem.length c3) := (hSw.cell (p := ⟨v.heap.size, _, none⟩) tx).trans t5; go_simp; first | done | with_reducible rfl⟩) (hS := hH) (h := ?_)
      refine tl 14 hH ?_
      refine tl 15 hH ?_
      refine tl 16 hH ?_
      refine tl 17 hH ?_
      refine tk (i := 18) (v := ?_) (hy := .inl ⟨by rfl, by intro w hSw; have u1 := (hSw.cell (p := ⟨b, _, none⟩) hbl).trans s1; go_simp; first | done | with_reducible rfl⟩) (hS := hH) (h := ?_)
      refine tl 19 hH ?_
      refine tl 20 hH ?_
      refine tk (i := 21) (v := ?_) (hy := .inl ⟨by rfl, by intro w hSw; have ub : w.cell? ⟨v.heap.size + 1, 4, none⟩ = some (.int .i64 c.e.2.1) := (hSw.cell (p := ⟨v.heap.size + 1, _, none⟩) (blkX q1.out)).trans (blkC q1.out 4); go_simp; first | done | with_reducible rfl⟩) (hS := hH) (h := ?_)
      refine tl 22 hH ?_
      refine tl 23 hH ?_
      refine tl 24 hH ?_
      refine tl 25 hH ?_
      refine tk (i := 26) (v := ?_) (hy := .inl ⟨by rfl, by intro w hSw; have u5 : w.cell? ⟨v.heap.size, 5, none⟩ = some (.slice (some ⟨b, o, none⟩) x.mem.length c3) := (hSw.cell (p := ⟨v.heap.size, _, none⟩) tx).trans t5; go_simp; first | done | with_reducible rfl⟩) (hS := hH) (h := ?_)
      refine tl 27 hH ?_
      refine tl 28 hH ?_
      refine tl 29 hH ?_
      refine tk (i := 30) (v := ?_) (hy := .inl ⟨by rfl, by intro w hSw; have u3 := (hSw.cell (p := ⟨b, _, none⟩) hbl).trans s3; go_simp; first | done | with_reducible rfl⟩) (hS := hH) (h := ?_)
      refine tl 31 hH ?_
      refine tk (i := 32) (v := ?_) (hy := .inl ⟨by rfl, by intro w hSw; have uc : w.cell? ⟨v.heap.size + 1, 6, none⟩ = some (.string c.key) := (hSw.cell (p := ⟨v.heap.size + 1, _, none⟩) (blkX q1.out)).trans (blkC q1.out 6); go_simp; first | done | with_reducible rfl⟩) (hS := hH) (h := ?_)
      refine tl 33 hH ?_
      refine tl 34 hH ?_
      refine wpAnyH_done (by kernel_rfl) ?_ _
      clear hH
      go_wp2_with (fail)
      try rw [← hY.out]
      exact ⟨⟨j + 1, by omega, by go_num, kY.out, takeAllP (q := fun z : En => (decide (z.e.1 = c.e.1) && decide (z.e.2.1 = c.e.2.1) && !decide (z.k = c.key)) = false) hno.out hx.out (by simp)⟩, by simp [intOf]; omega⟩
     ·
      have e4 : (yk.toList == c.key.toList) = false := by rw [tl_eq]; exact decide_eq_false e3
      as_aux_lemma =>
      go_wp2_with (fail)
      refine wp_region_held_drew (S := (fun W' : World => Below X.heap.size X W')) (by kernel_rfl) ?_ (fun hH => ?_)
      ·
       try rw [← hY.out]
       exact rY.out
      refine tl 0 hH ?_
      refine tk (i := 1) (v := ?_) (hy := .inl ⟨by rfl, by intro w hSw; have u5 : w.cell? ⟨v.heap.size, 5, none⟩ = some (.slice (some ⟨b, o, none⟩) x.mem.length c3) := (hSw.cell (p := ⟨v.heap.size, _, none⟩) tx).trans t5; go_simp; first | done | with_reducible rfl⟩) (hS := hH) (h := ?_)
      refine tl 2 hH ?_
      refine tl 3 hH ?_
      refine tl 4 hH ?_
      refine tl 5 hH ?_
      refine tk (i := 6) (v := ?_) (hy := .inl ⟨by rfl, by intro w hSw; have u0 := (hSw.cell (p := ⟨b, _, none⟩) hbl).trans s0; go_simp; first | done | with_reducible rfl⟩) (hS := hH) (h := ?_)
      refine tl 7 hH ?_
      refine tl 8 hH ?_
      refine tk (i := 9) (v := ?_) (hy := .inl ⟨by rfl, by intro w hSw; have ua : w.cell? ⟨v.heap.size + 1, 3, none⟩ = some (.int .i64 c.e.1) := (hSw.cell (p := ⟨v.heap.size + 1, _, none⟩) (blkX q1.out)).trans (blkC q1.out 3); go_simp; first | done | with_reducible rfl⟩) (hS := hH) (h := ?_)
      refine tl 10 hH ?_
      refine tl 11 hH ?_
      refine tl 12 hH ?_
      refine tk (i := 13) (v := ?_) (hy := .inl ⟨by rfl, by intro w hSw; have u5 : w.cell? ⟨v.heap.size, 5, none⟩ = some (.slice (some ⟨b, o, none⟩) x.mem.length c3) := (hSw.cell (p := ⟨v.heap.size, _, none⟩) tx).trans t5; go_simp; first | done | with_reducible rfl⟩) (hS := hH) (h := ?_)
      refine tl 14 hH ?_
      refine tl 15 hH ?_
      refine tl 16 hH ?_
      refine tl 17 hH ?_
      refine tk (i := 18) (v := ?_) (hy := .inl ⟨by rfl, by intro w hSw; have u1 := (hSw.cell (p := ⟨b, _, none⟩) hbl).trans s1; go_simp; first | done | with_reducible rfl⟩) (hS := hH) (h := ?_)
      refine tl 19 hH ?_
      refine tl 20 hH ?_
      refine tk (i := 21) (v := ?_) (hy := .inl ⟨by rfl, by intro w hSw; have ub : w.cell? ⟨v.heap.size + 1, 4, none⟩ = some (.int .i64 c.e.2.1) := (hSw.cell (p := ⟨v.heap.size + 1, _, none⟩) (blkX q1.out)).trans (blkC q1.out 4); go_simp; first | done | with_reducible rfl⟩) (hS := hH) (h := ?_)
      refine tl 22 hH ?_
      refine tl 23 hH ?_
      refine tl 24 hH ?_
      refine tl 25 hH ?_
      refine tk (i := 26) (v := ?_) (hy := .inl ⟨by rfl, by intro w hSw; have u5 : w.cell? ⟨v.heap.size, 5, none⟩ = some (.slice (some ⟨b, o, none⟩) x.mem.length c3) := (hSw.cell (p := ⟨v.heap.size, _, none⟩) tx).trans t5; go_simp; first | done | with_reducible rfl⟩) (hS := hH) (h := ?_)
      refine tl 27 hH ?_
      refine tl 28 hH ?_
      refine tl 29 hH ?_
      refine tk (i := 30) (v := ?_) (hy := .inl ⟨by rfl, by intro w hSw; have u3 := (hSw.cell (p := ⟨b, _, none⟩) hbl).trans s3; go_simp; first | done | with_reducible rfl⟩) (hS := hH) (h := ?_)
      refine tl 31 hH ?_
      refine tk (i := 32) (v := ?_) (hy := .inl ⟨by rfl, by intro w hSw; have uc : w.cell? ⟨v.heap.size + 1, 6, none⟩ = some (.string c.key) := (hSw.cell (p := ⟨v.heap.size + 1, _, none⟩) (blkX q1.out)).trans (blkC q1.out 6); go_simp; first | done | with_reducible rfl⟩) (hS := hH) (h := ?_)
      refine tl 33 hH ?_
      refine tl 34 hH ?_
      refine wpAnyH_done (by kernel_rfl) ?_ _
      clear hH
      go_wp2_with (fail)
      go_ret
      try rw [← hY.out]
      refine ⟨?_, by first | exact k1.out.trans (kY.out.mono k1.out.size) | skip⟩
      rw [show otherB x.mem c = true from List.any_eq_true.2 ⟨_, List.mem_of_getElem? hx.out, by simp [e1, e2, e3]⟩]; rfl
    ·
     have e2' : (y1 == c.e.2.1) = false := by simp [e2]
     as_aux_lemma =>
     go_wp2_with (fail)
     refine wp_region_held_drew (S := (fun W' : World => Below X.heap.size X W')) (by kernel_rfl) ?_ (fun hH => ?_)
     ·
      try rw [← hY.out]
      exact rY.out
     refine tl 0 hH ?_
     refine tk (i := 1) (v := ?_) (hy := .inl ⟨by rfl, by intro w hSw; have u5 : w.cell? ⟨v.heap.size, 5, none⟩ = some (.slice (some ⟨b, o, none⟩) x.mem.length c3) := (hSw.cell (p := ⟨v.heap.size, _, none⟩) tx).trans t5; go_simp; first | done | with_reducible rfl⟩) (hS := hH) (h := ?_)
     refine tl 2 hH ?_
     refine tl 3 hH ?_
     refine tl 4 hH ?_
     refine tl 5 hH ?_
     refine tk (i := 6) (v := ?_) (hy := .inl ⟨by rfl, by intro w hSw; have u0 := (hSw.cell (p := ⟨b, _, none⟩) hbl).trans s0; go_simp; first | done | with_reducible rfl⟩) (hS := hH) (h := ?_)
     refine tl 7 hH ?_
     refine tl 8 hH ?_
     refine tk (i := 9) (v := ?_) (hy := .inl ⟨by rfl, by intro w hSw; have ua : w.cell? ⟨v.heap.size + 1, 3, none⟩ = some (.int .i64 c.e.1) := (hSw.cell (p := ⟨v.heap.size + 1, _, none⟩) (blkX q1.out)).trans (blkC q1.out 3); go_simp; first | done | with_reducible rfl⟩) (hS := hH) (h := ?_)
     refine tl 10 hH ?_
     refine tl 11 hH ?_
     refine tl 12 hH ?_
     refine tk (i := 13) (v := ?_) (hy := .inl ⟨by rfl, by intro w hSw; have u5 : w.cell? ⟨v.heap.size, 5, none⟩ = some (.slice (some ⟨b, o, none⟩) x.mem.length c3) := (hSw.cell (p := ⟨v.heap.size, _, none⟩) tx).trans t5; go_simp; first | done | with_reducible rfl⟩) (hS := hH) (h := ?_)
     refine tl 14 hH ?_
     refine tl 15 hH ?_
     refine tl 16 hH ?_
     refine tl 17 hH ?_
     refine tk (i := 18) (v := ?_) (hy := .inl ⟨by rfl, by intro w hSw; have u1 := (hSw.cell (p := ⟨b, _, none⟩) hbl).trans s1; go_simp; first | done | with_reducible rfl⟩) (hS := hH) (h := ?_)
     refine tl 19 hH ?_
     refine tl 20 hH ?_
     refine tk (i := 21) (v := ?_) (hy := .inl ⟨by rfl, by intro w hSw; have ub : w.cell? ⟨v.heap.size + 1, 4, none⟩ = some (.int .i64 c.e.2.1) := (hSw.cell (p := ⟨v.heap.size + 1, _, none⟩) (blkX q1.out)).trans (blkC q1.out 4); go_simp; first | done | with_reducible rfl⟩) (hS := hH) (h := ?_)
     refine tl 22 hH ?_
     refine tl 23 hH ?_
     refine tl 24 hH ?_
     refine ts 25 hH ?_
     refine ts 26 hH ?_
     refine ts 27 hH ?_
     refine ts 28 hH ?_
     refine ts 29 hH ?_
     refine ts 30 hH ?_
     refine ts 31 hH ?_
     refine ts 32 hH ?_
     refine ts 33 hH ?_
     refine tl 34 hH ?_
     refine wpAnyH_done (by kernel_rfl) ?_ _
     clear hH
     go_wp2_with (fail)
     try rw [← hY.out]
     exact ⟨⟨j + 1, by omega, by go_num, kY.out, takeAllP (q := fun z : En => (decide (z.e.1 = c.e.1) && decide (z.e.2.1 = c.e.2.1) && !decide (z.k = c.key)) = false) hno.out hx.out (by simp [e2])⟩, by simp [intOf]; omega⟩
   ·
    have e1' : (y0 == c.e.1) = false := by simp [e1]
    as_aux_lemma =>
    go_wp2_with (fail)
    refine wp_region_held_drew (S := (fun W' : World => Below X.heap.size X W')) (by kernel_rfl) ?_ (fun hH => ?_)
    ·
     try rw [← hY.out]
     exact rY.out
    refine tl 0 hH ?_
    refine tk (i := 1) (v := ?_) (hy := .inl ⟨by rfl, by intro w hSw; have u5 : w.cell? ⟨v.heap.size, 5, none⟩ = some (.slice (some ⟨b, o, none⟩) x.mem.length c3) := (hSw.cell (p := ⟨v.heap.size, _, none⟩) tx).trans t5; go_simp; first | done | with_reducible rfl⟩) (hS := hH) (h := ?_)
    refine tl 2 hH ?_
    refine tl 3 hH ?_
    refine tl 4 hH ?_
    refine tl 5 hH ?_
    refine tk (i := 6) (v := ?_) (hy := .inl ⟨by rfl, by intro w hSw; have u0 := (hSw.cell (p := ⟨b, _, none⟩) hbl).trans s0; go_simp; first | done | with_reducible rfl⟩) (hS := hH) (h := ?_)
    refine tl 7 hH ?_
    refine tl 8 hH ?_
    refine tk (i := 9) (v := ?_) (hy := .inl ⟨by rfl, by intro w hSw; have ua : w.cell? ⟨v.heap.size + 1, 3, none⟩ = some (.int .i64 c.e.1) := (hSw.cell (p := ⟨v.heap.size + 1, _, none⟩) (blkX q1.out)).trans (blkC q1.out 3); go_simp; first | done | with_reducible rfl⟩) (hS := hH) (h := ?_)
    refine tl 10 hH ?_
    refine tl 11 hH ?_
    refine ts 12 hH ?_
    refine ts 13 hH ?_
    refine ts 14 hH ?_
    refine ts 15 hH ?_
    refine ts 16 hH ?_
    refine ts 17 hH ?_
    refine ts 18 hH ?_
    refine ts 19 hH ?_
    refine ts 20 hH ?_
    refine ts 21 hH ?_
    refine ts 22 hH ?_
    refine tl 23 hH ?_
    refine tl 24 hH ?_
    refine ts 25 hH ?_
    refine ts 26 hH ?_
    refine ts 27 hH ?_
    refine ts 28 hH ?_
    refine ts 29 hH ?_
    refine ts 30 hH ?_
    refine ts 31 hH ?_
    refine ts 32 hH ?_
    refine ts 33 hH ?_
    refine tl 34 hH ?_
    refine wpAnyH_done (by kernel_rfl) ?_ _
    clear hH
    go_wp2_with (fail)
    try rw [← hY.out]
    exact ⟨⟨j + 1, by omega, by go_num, kY.out, takeAllP (q := fun z : En => (decide (z.e.1 = c.e.1) && decide (z.e.2.1 = c.e.2.1) && !decide (z.k = c.key)) = false) hno.out hx.out (by simp [e1])⟩, by simp [intOf]; omega⟩
  ·
   obtain rfl : j = x.mem.length := by omega
   have hoth : otherB x.mem c = false := by
    unfold otherB; rw [List.any_eq_false]; intro z hz h; exact Bool.noConfusion (h.symm.trans (takeLenP hno.out (Nat.le_refl _) z hz))
   replace hoth := Lib.hid hoth
   go_wp2_with (fail)
   go_ret
   exact ⟨by rw [hoth.out]; rfl, kX.out⟩
end Go.Proofs.YtmmiknlpndjdlaaGreatDoor
