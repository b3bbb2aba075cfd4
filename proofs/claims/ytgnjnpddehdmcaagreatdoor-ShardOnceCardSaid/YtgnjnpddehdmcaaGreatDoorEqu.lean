/- equal, of two states that are alike. -/
import Derived.Test.YtgnjnpddehdmcaaGreatDoorSta
import Derived.Test.YtgnjnpddehdmcaaGreatDoorWkP
namespace Go.Proofs.YtgnjnpddehdmcaaGreatDoor
open Go.RowKit Go.Shelf
set_option linter.unusedSimpArgs false
set_option linter.unusedVariables false
set_option linter.unusedSectionVars false
set_option maxRecDepth 10000
structure StS (W : World) (x : Sh) (AR A1 A2 A3 AG AT : Option Addr) : Prop where
 r : GS W AR x.own.length x.own
 k : KS W A1 x.cnt.length (x.cnt.map (·.1))
 c : CS W A2 x.cnt.length (x.cnt.map (·.2))
 m : MS W A3 x.mem.length x.mem
 g : SL encGv 2 W AG x.giv.length x.giv
 t : SL encI1 1 W AT x.tak.length (x.tak.map (·.1))
theorem StS.keep {W W' : World} {x : Sh} {AR A1 A2 A3 AG AT : Option Addr} (h : StS W x AR A1 A2 A3 AG AT) (hb : Below W.heap.size W W') : StS W' x AR A1 A2 A3 AG AT :=
 ⟨SL.keep h.r hb, SL.keep h.k hb, SL.keep h.c hb, SL.keep h.m hb, SL.keep h.g hb, SL.keep h.t hb⟩
theorem StaR.sls {v W : World} {x : Sh} {AR : Option Addr} {cR : Nat} {A1 : Option Addr} {c1 : Nat} {A2 : Option Addr} {c2 : Nat} {A3 : Option Addr} {c3 : Nat} {AG : Option Addr} {cG : Nat} {AT : Option Addr} {cT : Nat} (h : StaR v x.own x.cnt x.mem x.giv (x.tak.map (·.1)) AR cR A1 c1 A2 c2 A3 c3 AG cG AT cT W) : StS W x AR A1 A2 A3 AG AT :=
 ⟨SL.of_own encG_len h.oR rfl, SL.of_own (fun _ => rfl) h.o1 (by simp), SL.of_own encC_len h.o2 (by simp), SL.of_own encM_len h.o3 rfl, SL.of_own encGv_len h.oG rfl, SL.of_own encI1_len (by have := h.oT; rw [List.length_map] at this; exact this) (by simp)⟩
structure Sz (x : Sh) : Prop where
 r : x.own.length ≤ 1000000
 c : x.cnt.length ≤ 1000000
 m : x.mem.length ≤ 1000000
 g : x.giv.length ≤ 1000000
 t : x.tak.length ≤ 1000000
set_option maxHeartbeats 32000000 in
theorem equal_any (x : Sh) (a : Int) (AR : Option Addr) (cR : Nat) (A1 : Option Addr) (c1 : Nat) (A2 : Option Addr) (c2 : Nat) (A3 : Option Addr) (c3 : Nat) (AG : Option Addr) (cG : Nat) (AT : Option Addr) (cT : Nat) (BR : Option Addr) (dR : Nat) (B1 : Option Addr) (d1 : Nat) (B2 : Option Addr) (d2 : Nat) (B3 : Option Addr) (d3 : Nat) (BG : Option Addr) (dG : Nat) (BT : Option Addr) (dT : Nat) (v : World) (h1 : StS v x AR A1 A2 A3 AG AT) (h2 : StS v x BR B1 B2 B3 BG BT) (hz : Sz x) : Calls Tryz.prog 11 #[StaE x AR cR A1 c1 A2 c2 A3 c3 AG cG AT cT, StaE { x with app := a } BR dR B1 d1 B2 d2 B3 d3 BG dG BT dT] v fun e w' => e = .returned (.bool true) ∧ Below v.heap.size v w' := by
 unfold StaE
 simp only
 obtain ⟨W1, hW1⟩ : ∃ W1, W1 = ((v.alloc (.cells #[.int .i64 x.group, .int .i64 x.app, .slice AR x.own.length cR, .slice A1 x.cnt.length c1, .slice A2 x.cnt.length c2, .slice A3 x.mem.length c3, .slice AG x.giv.length cG, .slice AT x.tak.length cT] 49)).alloc (.cells #[.int .i64 x.group, .int .i64 a, .slice BR x.own.length dR, .slice B1 x.cnt.length d1, .slice B2 x.cnt.length d2, .slice B3 x.mem.length d3, .slice BG x.giv.length dG, .slice BT x.tak.length dT] 49)) := ⟨_, rfl⟩
 have k1 : Below v.heap.size v W1 := by rw [hW1]; exact ((Below.refl _ v).alloc (Nat.le_refl _) _).alloc (by simp <;> omega) _
 have b0 : W1.heap[v.heap.size]? = some (.cells #[.int .i64 x.group, .int .i64 x.app, .slice AR x.own.length cR, .slice A1 x.cnt.length c1, .slice A2 x.cnt.length c2, .slice A3 x.mem.length c3, .slice AG x.giv.length cG, .slice AT x.tak.length cT] 49 (0, 0)) := by rw [hW1]; repeat (first | exact hpNewAt _ (by simp) | exact hpNew _ _ | refine (hpOld _ (by simp <;> omega)).trans ?_)
 have b1 : W1.heap[v.heap.size + 1]? = some (.cells #[.int .i64 x.group, .int .i64 a, .slice BR x.own.length dR, .slice B1 x.cnt.length d1, .slice B2 x.cnt.length d2, .slice B3 x.mem.length d3, .slice BG x.giv.length dG, .slice BT x.tak.length dT] 49 (0, 0)) := by rw [hW1]; repeat (first | exact hpNewAt _ (by simp) | exact hpNew _ _ | refine (hpOld _ (by simp <;> omega)).trans ?_)
 have g1 := h1.keep k1
 have g2 := h2.keep k1
 obtain ⟨z1, z2, z3, z4, z5⟩ := hz
 clear h1 h2
 have t0 : W1.cell? ⟨v.heap.size, 0, none⟩ = some (.int .i64 x.group) := blkC b0 0
 have w0 : W1.cell? ⟨v.heap.size + 1, 0, none⟩ = some (.int .i64 x.group) := blkC b1 0
 have t2 : W1.cell? ⟨v.heap.size, 2, none⟩ = some (.slice AR x.own.length cR) := blkC b0 2
 have w2 : W1.cell? ⟨v.heap.size + 1, 2, none⟩ = some (.slice BR x.own.length dR) := blkC b1 2
 have t3 : W1.cell? ⟨v.heap.size, 3, none⟩ = some (.slice A1 x.cnt.length c1) := blkC b0 3
 have w3 : W1.cell? ⟨v.heap.size + 1, 3, none⟩ = some (.slice B1 x.cnt.length d1) := blkC b1 3
 have t4 : W1.cell? ⟨v.heap.size, 4, none⟩ = some (.slice A2 x.cnt.length c2) := blkC b0 4
 have w4 : W1.cell? ⟨v.heap.size + 1, 4, none⟩ = some (.slice B2 x.cnt.length d2) := blkC b1 4
 have t5 : W1.cell? ⟨v.heap.size, 5, none⟩ = some (.slice A3 x.mem.length c3) := blkC b0 5
 have w5 : W1.cell? ⟨v.heap.size + 1, 5, none⟩ = some (.slice B3 x.mem.length d3) := blkC b1 5
 have t6 : W1.cell? ⟨v.heap.size, 6, none⟩ = some (.slice AG x.giv.length cG) := blkC b0 6
 have w6 : W1.cell? ⟨v.heap.size + 1, 6, none⟩ = some (.slice BG x.giv.length dG) := blkC b1 6
 have t7 : W1.cell? ⟨v.heap.size, 7, none⟩ = some (.slice AT x.tak.length cT) := blkC b0 7
 have w7 : W1.cell? ⟨v.heap.size + 1, 7, none⟩ = some (.slice BT x.tak.length dT) := blkC b1 7
 have tx := blkX b0; have wx := blkX b1
 rw [hW1] at t0 w0 t2 w2 t3 w3 t4 w4 t5 w5 t6 w6 t7 w7 tx wx
 replace k1 := Lh k1; replace b0 := Lh b0; replace b1 := Lh b1; replace g1 := Lh g1; replace g2 := Lh g2
 go_enter Tryz.func11, Tryz.ntmps11
 go_wp2_with (fail)
 rw [← hW1]
 clear t0 w0 t2 w2 t3 w3 t4 w4 t5 w5 t6 w6 t7 w7 tx wx
 replace hW1 := Lh hW1
 go_loopw [5] (fun i wr => Below W1.heap.size W1 wr ∧ ∃ j : Nat, j ≤ x.own.length ∧ i = .int .i64 j) (fun i _ => x.own.length - (intOf i).toNat)
 case atStart => exact ⟨by first | exact Below.refl _ _ | (rw [hW1.out]; exact Below.refl _ _), 0, by omega, rfl⟩
 case round =>
  revert wr
  intro X5 hrel
  obtain ⟨hX5, j, hj, rfl⟩ := hrel
  have q0 := (hX5.block _ (blkX b0.out)).trans b0.out
  have q1 := (hX5.block _ (blkX b1.out)).trans b1.out
  have tx := blkX q0; have wx := blkX q1
  have t2 : X5.cell? ⟨v.heap.size, 2, none⟩ = some (.slice AR x.own.length cR) := blkC q0 2
  have w2 : X5.cell? ⟨v.heap.size + 1, 2, none⟩ = some (.slice BR x.own.length dR) := blkC q1 2
  replace q0 := Lh q0; replace q1 := Lh q1
  replace hX5 := Lh hX5
  by_cases hlt : j < x.own.length
  ·
   obtain ⟨ab0, ao0, ay0, hAe0, al0, ax0, ah0⟩ := SL.at_ (SL.keep g1.out.r hX5.out) hlt
   obtain ⟨bb0, bo0, by0, hBe0, bl0, bx0, bh0⟩ := SL.at_ (SL.keep g2.out.r hX5.out) hlt
   obtain rfl : ay0 = by0 := Option.some.inj (ax0.symm.trans bx0)
   have s0_0 := ah0 0 _ rfl; have r0_0 := bh0 0 _ rfl
   have s0_1 := ah0 1 _ rfl; have r0_1 := bh0 1 _ rfl
   rw [Nat.add_zero] at s0_0 r0_0
   rw [hAe0] at t2; rw [hBe0] at w2
   clear ah0 bh0 ax0 bx0
   replace q0 := q0
   have j0 : (0 : Int) ≤ j := by omega
   have j1 : (j : Int) < (x.own.length : Int) := by omega
   obtain ⟨Y, hY⟩ : ∃ W, W = X5.drew := ⟨_, rfl⟩
   have bY : Below X5.heap.size X5 Y := by rw [hY]; exact (Below.refl _ _).drew
   have kY := Lh (hX5.out.trans (bY.mono hX5.out.size))
   have rY := Lh (show Below X5.heap.size X5 Y from bY)
   clear bY
   replace hY := Lh hY
   replace hAe0 := Lh hAe0; replace hBe0 := Lh hBe0
   as_aux_lemma =>
   go_wp2_with (fail)
   refine wp_region_held_drew (S := (fun W' : World => Below X5.heap.size X5 W')) (by kernel_rfl) ?_ (fun hH => ?_)
   ·
    try rw [← hY.out]
    exact rY.out
   refine tl 0 hH ?_
   refine tk (i := 1) (v := ?_) (hy := .inl ⟨by rfl, by intro w hSw; have u : w.cell? ⟨v.heap.size, 2, none⟩ = some (.slice (some ⟨ab0, ao0, none⟩) x.own.length cR) := (hSw.cell (p := ⟨v.heap.size, _, none⟩) tx).trans t2; go_simp; first | done | with_reducible rfl⟩) (hS := hH) (h := ?_)
   refine tl 2 hH ?_
   refine tl 3 hH ?_
   refine tk (i := 4) (v := ?_) (hy := .inl ⟨by rfl, by intro w hSw; have u0 := (hSw.cell (p := ⟨ab0, _, none⟩) al0).trans s0_0; have u1 := (hSw.cell (p := ⟨ab0, _, none⟩) al0).trans s0_1; go_simp; first | done | with_reducible rfl⟩) (hS := hH) (h := ?_)
   refine tl 5 hH ?_
   refine tk (i := 6) (v := ?_) (hy := .inl ⟨by rfl, by intro w hSw; have u : w.cell? ⟨v.heap.size + 1, 2, none⟩ = some (.slice (some ⟨bb0, bo0, none⟩) x.own.length dR) := (hSw.cell (p := ⟨v.heap.size + 1, _, none⟩) wx).trans w2; go_simp; first | done | with_reducible rfl⟩) (hS := hH) (h := ?_)
   refine tl 7 hH ?_
   refine tl 8 hH ?_
   refine tk (i := 9) (v := ?_) (hy := .inl ⟨by rfl, by intro w hSw; have u0 := (hSw.cell (p := ⟨bb0, _, none⟩) bl0).trans r0_0; have u1 := (hSw.cell (p := ⟨bb0, _, none⟩) bl0).trans r0_1; go_simp; first | done | with_reducible rfl⟩) (hS := hH) (h := ?_)
   refine tl 10 hH ?_
   refine wpAnyH_done (by kernel_rfl) ?_ _
   clear hH
   go_wp2_with (fail)
   try rw [← hY.out]
   exact ⟨⟨kY.out, j + 1, by omega, by go_num⟩, by simp [intOf]; omega⟩
  ·
   have hje : j = x.own.length := by omega
   have j2 : ((j : Int) < (x.own.length : Int)) = False := eq_false (by omega)
   go_wp2_with (fail)
   clear tx wx j2 t2 w2
   go_loopw [6] (fun i wr => Below W1.heap.size W1 wr ∧ ∃ j : Nat, j ≤ x.cnt.length ∧ i = .int .i64 j) (fun i _ => x.cnt.length - (intOf i).toNat)
   case atStart => exact ⟨hX5.out, 0, by omega, rfl⟩
   case round =>
    revert wr
    intro X6 hrel
    obtain ⟨hX6, j, hj, rfl⟩ := hrel
    have q0 := (hX6.block _ (blkX b0.out)).trans b0.out
    have q1 := (hX6.block _ (blkX b1.out)).trans b1.out
    have tx := blkX q0; have wx := blkX q1
    have t3 : X6.cell? ⟨v.heap.size, 3, none⟩ = some (.slice A1 x.cnt.length c1) := blkC q0 3
    have w3 : X6.cell? ⟨v.heap.size + 1, 3, none⟩ = some (.slice B1 x.cnt.length d1) := blkC q1 3
    have t4 : X6.cell? ⟨v.heap.size, 4, none⟩ = some (.slice A2 x.cnt.length c2) := blkC q0 4
    have w4 : X6.cell? ⟨v.heap.size + 1, 4, none⟩ = some (.slice B2 x.cnt.length d2) := blkC q1 4
    replace q0 := Lh q0; replace q1 := Lh q1
    replace hX6 := Lh hX6
    by_cases hlt : j < x.cnt.length
    ·
     obtain ⟨ab0, ao0, ay0, hAe0, al0, ax0, ah0⟩ := SL.at_ (SL.keep g1.out.k hX6.out) hlt
     obtain ⟨bb0, bo0, by0, hBe0, bl0, bx0, bh0⟩ := SL.at_ (SL.keep g2.out.k hX6.out) hlt
     obtain rfl : ay0 = by0 := Option.some.inj (ax0.symm.trans bx0)
     have s0_0 := ah0 0 _ rfl; have r0_0 := bh0 0 _ rfl
     rw [Nat.add_zero] at s0_0 r0_0
     rw [Nat.mul_one] at s0_0 r0_0
     rw [hAe0] at t3; rw [hBe0] at w3
     clear ah0 bh0 ax0 bx0
     obtain ⟨ab1, ao1, ay1, hAe1, al1, ax1, ah1⟩ := SL.at_ (SL.keep g1.out.c hX6.out) hlt
     obtain ⟨bb1, bo1, by1, hBe1, bl1, bx1, bh1⟩ := SL.at_ (SL.keep g2.out.c hX6.out) hlt
     obtain rfl : ay1 = by1 := Option.some.inj (ax1.symm.trans bx1)
     have s1_0 := ah1 0 _ rfl; have r1_0 := bh1 0 _ rfl
     have s1_1 := ah1 1 _ rfl; have r1_1 := bh1 1 _ rfl
     have s1_2 := ah1 2 _ rfl; have r1_2 := bh1 2 _ rfl
     have s1_3 := ah1 3 _ rfl; have r1_3 := bh1 3 _ rfl
     have s1_4 := ah1 4 _ rfl; have r1_4 := bh1 4 _ rfl
     rw [Nat.add_zero] at s1_0 r1_0
     rw [hAe1] at t4; rw [hBe1] at w4
     clear ah1 bh1 ax1 bx1
     replace q0 := q0
     have j0 : (0 : Int) ≤ j := by omega
     have j1 : (j : Int) < (x.cnt.length : Int) := by omega
     obtain ⟨Y, hY⟩ : ∃ W, W = X6.drew := ⟨_, rfl⟩
     have bY : Below X6.heap.size X6 Y := by rw [hY]; exact (Below.refl _ _).drew
     have kY := Lh (hX6.out.trans (bY.mono hX6.out.size))
     have rY := Lh (show Below X6.heap.size X6 Y from bY)
     clear bY
     replace hY := Lh hY
     replace hAe0 := Lh hAe0; replace hBe0 := Lh hBe0
     replace hAe1 := Lh hAe1; replace hBe1 := Lh hBe1
     as_aux_lemma =>
     go_wp2_with (fail)
     refine wp_region_held_drew (S := (fun W' : World => Below X6.heap.size X6 W')) (by kernel_rfl) ?_ (fun hH => ?_)
     ·
      try rw [← hY.out]
      exact rY.out
     refine tl 0 hH ?_
     refine tk (i := 1) (v := ?_) (hy := .inl ⟨by rfl, by intro w hSw; have u : w.cell? ⟨v.heap.size, 3, none⟩ = some (.slice (some ⟨ab0, ao0, none⟩) x.cnt.length c1) := (hSw.cell (p := ⟨v.heap.size, _, none⟩) tx).trans t3; go_simp; first | done | with_reducible rfl⟩) (hS := hH) (h := ?_)
     refine tl 2 hH ?_
     refine tl 3 hH ?_
     refine tk (i := 4) (v := ?_) (hy := .inl ⟨by rfl, by intro w hSw; have u0 := (hSw.cell (p := ⟨ab0, _, none⟩) al0).trans s0_0; go_simp; first | done | with_reducible rfl⟩) (hS := hH) (h := ?_)
     refine tl 5 hH ?_
     refine tk (i := 6) (v := ?_) (hy := .inl ⟨by rfl, by intro w hSw; have u : w.cell? ⟨v.heap.size + 1, 3, none⟩ = some (.slice (some ⟨bb0, bo0, none⟩) x.cnt.length d1) := (hSw.cell (p := ⟨v.heap.size + 1, _, none⟩) wx).trans w3; go_simp; first | done | with_reducible rfl⟩) (hS := hH) (h := ?_)
     refine tl 7 hH ?_
     refine tl 8 hH ?_
     refine tk (i := 9) (v := ?_) (hy := .inl ⟨by rfl, by intro w hSw; have u0 := (hSw.cell (p := ⟨bb0, _, none⟩) bl0).trans r0_0; go_simp; first | done | with_reducible rfl⟩) (hS := hH) (h := ?_)
     refine tl 10 hH ?_
     refine tl 11 hH ?_
     refine tl 12 hH ?_
     refine tk (i := 13) (v := ?_) (hy := .inl ⟨by rfl, by intro w hSw; have u : w.cell? ⟨v.heap.size, 4, none⟩ = some (.slice (some ⟨ab1, ao1, none⟩) x.cnt.length c2) := (hSw.cell (p := ⟨v.heap.size, _, none⟩) tx).trans t4; go_simp; first | done | with_reducible rfl⟩) (hS := hH) (h := ?_)
     refine tl 14 hH ?_
     refine tl 15 hH ?_
     refine tk (i := 16) (v := ?_) (hy := .inl ⟨by rfl, by intro w hSw; have u0 := (hSw.cell (p := ⟨ab1, _, none⟩) al1).trans s1_0; have u1 := (hSw.cell (p := ⟨ab1, _, none⟩) al1).trans s1_1; have u2 := (hSw.cell (p := ⟨ab1, _, none⟩) al1).trans s1_2; have u3 := (hSw.cell (p := ⟨ab1, _, none⟩) al1).trans s1_3; have u4 := (hSw.cell (p := ⟨ab1, _, none⟩) al1).trans s1_4; go_simp; first | done | with_reducible rfl⟩) (hS := hH) (h := ?_)
     refine tl 17 hH ?_
     refine tk (i := 18) (v := ?_) (hy := .inl ⟨by rfl, by intro w hSw; have u : w.cell? ⟨v.heap.size + 1, 4, none⟩ = some (.slice (some ⟨bb1, bo1, none⟩) x.cnt.length d2) := (hSw.cell (p := ⟨v.heap.size + 1, _, none⟩) wx).trans w4; go_simp; first | done | with_reducible rfl⟩) (hS := hH) (h := ?_)
     refine tl 19 hH ?_
     refine tl 20 hH ?_
     refine tk (i := 21) (v := ?_) (hy := .inl ⟨by rfl, by intro w hSw; have u0 := (hSw.cell (p := ⟨bb1, _, none⟩) bl1).trans r1_0; have u1 := (hSw.cell (p := ⟨bb1, _, none⟩) bl1).trans r1_1; have u2 := (hSw.cell (p := ⟨bb1, _, none⟩) bl1).trans r1_2; have u3 := (hSw.cell (p := ⟨bb1, _, none⟩) bl1).trans r1_3; have u4 := (hSw.cell (p := ⟨bb1, _, none⟩) bl1).trans r1_4; go_simp; first | done | with_reducible rfl⟩) (hS := hH) (h := ?_)
     refine tl 22 hH ?_
     refine tl 23 hH ?_
     refine wpAnyH_done (by kernel_rfl) ?_ _
     clear hH
     go_wp2_with (fail)
     try rw [← hY.out]
     exact ⟨⟨kY.out, j + 1, by omega, by go_num⟩, by simp [intOf]; omega⟩
    ·
     have hje : j = x.cnt.length := by omega
     have j2 : ((j : Int) < (x.cnt.length : Int)) = False := eq_false (by omega)
     go_wp2_with (fail)
     clear tx wx j2 t3 w3 t4 w4
     go_loopw [7] (fun i wr => Below W1.heap.size W1 wr ∧ ∃ j : Nat, j ≤ x.mem.length ∧ i = .int .i64 j) (fun i _ => x.mem.length - (intOf i).toNat)
     case atStart => exact ⟨hX6.out, 0, by omega, rfl⟩
     case round =>
      revert wr
      intro X7 hrel
      obtain ⟨hX7, j, hj, rfl⟩ := hrel
      have q0 := (hX7.block _ (blkX b0.out)).trans b0.out
      have q1 := (hX7.block _ (blkX b1.out)).trans b1.out
      have tx := blkX q0; have wx := blkX q1
      have t5 : X7.cell? ⟨v.heap.size, 5, none⟩ = some (.slice A3 x.mem.length c3) := blkC q0 5
      have w5 : X7.cell? ⟨v.heap.size + 1, 5, none⟩ = some (.slice B3 x.mem.length d3) := blkC q1 5
      replace q0 := Lh q0; replace q1 := Lh q1
      replace hX7 := Lh hX7
      by_cases hlt : j < x.mem.length
      ·
       obtain ⟨ab0, ao0, ay0, hAe0, al0, ax0, ah0⟩ := SL.at_ (SL.keep g1.out.m hX7.out) hlt
       obtain ⟨bb0, bo0, by0, hBe0, bl0, bx0, bh0⟩ := SL.at_ (SL.keep g2.out.m hX7.out) hlt
       obtain rfl : ay0 = by0 := Option.some.inj (ax0.symm.trans bx0)
       have s0_0 := ah0 0 _ rfl; have r0_0 := bh0 0 _ rfl
       have s0_1 := ah0 1 _ rfl; have r0_1 := bh0 1 _ rfl
       have s0_2 := ah0 2 _ rfl; have r0_2 := bh0 2 _ rfl
       have s0_3 := ah0 3 _ rfl; have r0_3 := bh0 3 _ rfl
       have s0_4 := ah0 4 _ rfl; have r0_4 := bh0 4 _ rfl
       have s0_5 := ah0 5 _ rfl; have r0_5 := bh0 5 _ rfl
       have s0_6 := ah0 6 _ rfl; have r0_6 := bh0 6 _ rfl
       rw [Nat.add_zero] at s0_0 r0_0
       rw [hAe0] at t5; rw [hBe0] at w5
       clear ah0 bh0 ax0 bx0
       replace q0 := q0
       have j0 : (0 : Int) ≤ j := by omega
       have j1 : (j : Int) < (x.mem.length : Int) := by omega
       obtain ⟨Y, hY⟩ : ∃ W, W = X7.drew := ⟨_, rfl⟩
       have bY : Below X7.heap.size X7 Y := by rw [hY]; exact (Below.refl _ _).drew
       have kY := Lh (hX7.out.trans (bY.mono hX7.out.size))
       have rY := Lh (show Below X7.heap.size X7 Y from bY)
       clear bY
       replace hY := Lh hY
       replace hAe0 := Lh hAe0; replace hBe0 := Lh hBe0
       as_aux_lemma =>
       go_wp2_with (fail)
       refine wp_region_held_drew (S := (fun W' : World => Below X7.heap.size X7 W')) (by kernel_rfl) ?_ (fun hH => ?_)
       ·
        try rw [← hY.out]
        exact rY.out
       refine tl 0 hH ?_
       refine tk (i := 1) (v := ?_) (hy := .inl ⟨by rfl, by intro w hSw; have u : w.cell? ⟨v.heap.size, 5, none⟩ = some (.slice (some ⟨ab0, ao0, none⟩) x.mem.length c3) := (hSw.cell (p := ⟨v.heap.size, _, none⟩) tx).trans t5; go_simp; first | done | with_reducible rfl⟩) (hS := hH) (h := ?_)
       refine tl 2 hH ?_
       refine tl 3 hH ?_
       refine tk (i := 4) (v := ?_) (hy := .inl ⟨by rfl, by intro w hSw; have u0 := (hSw.cell (p := ⟨ab0, _, none⟩) al0).trans s0_0; have u1 := (hSw.cell (p := ⟨ab0, _, none⟩) al0).trans s0_1; have u2 := (hSw.cell (p := ⟨ab0, _, none⟩) al0).trans s0_2; have u3 := (hSw.cell (p := ⟨ab0, _, none⟩) al0).trans s0_3; have u4 := (hSw.cell (p := ⟨ab0, _, none⟩) al0).trans s0_4; have u5 := (hSw.cell (p := ⟨ab0, _, none⟩) al0).trans s0_5; have u6 := (hSw.cell (p := ⟨ab0, _, none⟩) al0).trans s0_6; go_simp; first | done | with_reducible rfl⟩) (hS := hH) (h := ?_)
       refine tl 5 hH ?_
       refine tk (i := 6) (v := ?_) (hy := .inl ⟨by rfl, by intro w hSw; have u : w.cell? ⟨v.heap.size + 1, 5, none⟩ = some (.slice (some ⟨bb0, bo0, none⟩) x.mem.length d3) := (hSw.cell (p := ⟨v.heap.size + 1, _, none⟩) wx).trans w5; go_simp; first | done | with_reducible rfl⟩) (hS := hH) (h := ?_)
       refine tl 7 hH ?_
       refine tl 8 hH ?_
       refine tk (i := 9) (v := ?_) (hy := .inl ⟨by rfl, by intro w hSw; have u0 := (hSw.cell (p := ⟨bb0, _, none⟩) bl0).trans r0_0; have u1 := (hSw.cell (p := ⟨bb0, _, none⟩) bl0).trans r0_1; have u2 := (hSw.cell (p := ⟨bb0, _, none⟩) bl0).trans r0_2; have u3 := (hSw.cell (p := ⟨bb0, _, none⟩) bl0).trans r0_3; have u4 := (hSw.cell (p := ⟨bb0, _, none⟩) bl0).trans r0_4; have u5 := (hSw.cell (p := ⟨bb0, _, none⟩) bl0).trans r0_5; have u6 := (hSw.cell (p := ⟨bb0, _, none⟩) bl0).trans r0_6; go_simp; first | done | with_reducible rfl⟩) (hS := hH) (h := ?_)
       refine tl 10 hH ?_
       refine wpAnyH_done (by kernel_rfl) ?_ _
       clear hH
       go_wp2_with (fail)
       try rw [← hY.out]
       exact ⟨⟨kY.out, j + 1, by omega, by go_num⟩, by simp [intOf]; omega⟩
      ·
       have hje : j = x.mem.length := by omega
       have j2 : ((j : Int) < (x.mem.length : Int)) = False := eq_false (by omega)
       go_wp2_with (fail)
       clear tx wx j2 t5 w5
       go_loopw [8] (fun i wr => Below W1.heap.size W1 wr ∧ ∃ j : Nat, j ≤ x.giv.length ∧ i = .int .i64 j) (fun i _ => x.giv.length - (intOf i).toNat)
       case atStart => exact ⟨hX7.out, 0, by omega, rfl⟩
       case round =>
        revert wr
        intro X8 hrel
        obtain ⟨hX8, j, hj, rfl⟩ := hrel
        have q0 := (hX8.block _ (blkX b0.out)).trans b0.out
        have q1 := (hX8.block _ (blkX b1.out)).trans b1.out
        have tx := blkX q0; have wx := blkX q1
        have t6 : X8.cell? ⟨v.heap.size, 6, none⟩ = some (.slice AG x.giv.length cG) := blkC q0 6
        have w6 : X8.cell? ⟨v.heap.size + 1, 6, none⟩ = some (.slice BG x.giv.length dG) := blkC q1 6
        replace q0 := Lh q0; replace q1 := Lh q1
        replace hX8 := Lh hX8
        by_cases hlt : j < x.giv.length
        ·
         obtain ⟨ab0, ao0, ay0, hAe0, al0, ax0, ah0⟩ := SL.at_ (SL.keep g1.out.g hX8.out) hlt
         obtain ⟨bb0, bo0, by0, hBe0, bl0, bx0, bh0⟩ := SL.at_ (SL.keep g2.out.g hX8.out) hlt
         obtain rfl : ay0 = by0 := Option.some.inj (ax0.symm.trans bx0)
         have s0_0 := ah0 0 _ rfl; have r0_0 := bh0 0 _ rfl
         have s0_1 := ah0 1 _ rfl; have r0_1 := bh0 1 _ rfl
         rw [Nat.add_zero] at s0_0 r0_0
         rw [hAe0] at t6; rw [hBe0] at w6
         clear ah0 bh0 ax0 bx0
         replace q0 := q0
         have j0 : (0 : Int) ≤ j := by omega
         have j1 : (j : Int) < (x.giv.length : Int) := by omega
         obtain ⟨Y, hY⟩ : ∃ W, W = X8.drew := ⟨_, rfl⟩
         have bY : Below X8.heap.size X8 Y := by rw [hY]; exact (Below.refl _ _).drew
         have kY := Lh (hX8.out.trans (bY.mono hX8.out.size))
         have rY := Lh (show Below X8.heap.size X8 Y from bY)
         clear bY
         replace hY := Lh hY
         replace hAe0 := Lh hAe0; replace hBe0 := Lh hBe0
         as_aux_lemma =>
         go_wp2_with (fail)
         refine wp_region_held_drew (S := (fun W' : World => Below X8.heap.size X8 W')) (by kernel_rfl) ?_ (fun hH => ?_)
         ·
          try rw [← hY.out]
          exact rY.out
         refine tl 0 hH ?_
         refine tk (i := 1) (v := ?_) (hy := .inl ⟨by rfl, by intro w hSw; have u : w.cell? ⟨v.heap.size, 6, none⟩ = some (.slice (some ⟨ab0, ao0, none⟩) x.giv.length cG) := (hSw.cell (p := ⟨v.heap.size, _, none⟩) tx).trans t6; go_simp; first | done | with_reducible rfl⟩) (hS := hH) (h := ?_)
         refine tl 2 hH ?_
         refine tl 3 hH ?_
         refine tk (i := 4) (v := ?_) (hy := .inl ⟨by rfl, by intro w hSw; have u0 := (hSw.cell (p := ⟨ab0, _, none⟩) al0).trans s0_0; have u1 := (hSw.cell (p := ⟨ab0, _, none⟩) al0).trans s0_1; go_simp; first | done | with_reducible rfl⟩) (hS := hH) (h := ?_)
         refine tl 5 hH ?_
         refine tk (i := 6) (v := ?_) (hy := .inl ⟨by rfl, by intro w hSw; have u : w.cell? ⟨v.heap.size + 1, 6, none⟩ = some (.slice (some ⟨bb0, bo0, none⟩) x.giv.length dG) := (hSw.cell (p := ⟨v.heap.size + 1, _, none⟩) wx).trans w6; go_simp; first | done | with_reducible rfl⟩) (hS := hH) (h := ?_)
         refine tl 7 hH ?_
         refine tl 8 hH ?_
         refine tk (i := 9) (v := ?_) (hy := .inl ⟨by rfl, by intro w hSw; have u0 := (hSw.cell (p := ⟨bb0, _, none⟩) bl0).trans r0_0; have u1 := (hSw.cell (p := ⟨bb0, _, none⟩) bl0).trans r0_1; go_simp; first | done | with_reducible rfl⟩) (hS := hH) (h := ?_)
         refine tl 10 hH ?_
         refine wpAnyH_done (by kernel_rfl) ?_ _
         clear hH
         go_wp2_with (fail)
         try rw [← hY.out]
         exact ⟨⟨kY.out, j + 1, by omega, by go_num⟩, by simp [intOf]; omega⟩
        ·
         have hje : j = x.giv.length := by omega
         have j2 : ((j : Int) < (x.giv.length : Int)) = False := eq_false (by omega)
         go_wp2_with (fail)
         clear tx wx j2 t6 w6
         go_loopw [9] (fun i wr => Below W1.heap.size W1 wr ∧ ∃ j : Nat, j ≤ x.tak.length ∧ i = .int .i64 j) (fun i _ => x.tak.length - (intOf i).toNat)
         case atStart => exact ⟨hX8.out, 0, by omega, rfl⟩
         case round =>
          revert wr
          intro X9 hrel
          obtain ⟨hX9, j, hj, rfl⟩ := hrel
          have q0 := (hX9.block _ (blkX b0.out)).trans b0.out
          have q1 := (hX9.block _ (blkX b1.out)).trans b1.out
          have tx := blkX q0; have wx := blkX q1
          have t7 : X9.cell? ⟨v.heap.size, 7, none⟩ = some (.slice AT x.tak.length cT) := blkC q0 7
          have w7 : X9.cell? ⟨v.heap.size + 1, 7, none⟩ = some (.slice BT x.tak.length dT) := blkC q1 7
          replace q0 := Lh q0; replace q1 := Lh q1
          replace hX9 := Lh hX9
          by_cases hlt : j < x.tak.length
          ·
           obtain ⟨ab0, ao0, ay0, hAe0, al0, ax0, ah0⟩ := SL.at_ (SL.keep g1.out.t hX9.out) hlt
           obtain ⟨bb0, bo0, by0, hBe0, bl0, bx0, bh0⟩ := SL.at_ (SL.keep g2.out.t hX9.out) hlt
           obtain rfl : ay0 = by0 := Option.some.inj (ax0.symm.trans bx0)
           have s0_0 := ah0 0 _ rfl; have r0_0 := bh0 0 _ rfl
           rw [Nat.add_zero] at s0_0 r0_0
           rw [Nat.mul_one] at s0_0 r0_0
           rw [hAe0] at t7; rw [hBe0] at w7
           clear ah0 bh0 ax0 bx0
           replace q0 := q0
           have j0 : (0 : Int) ≤ j := by omega
           have j1 : (j : Int) < (x.tak.length : Int) := by omega
           obtain ⟨Y, hY⟩ : ∃ W, W = X9.drew := ⟨_, rfl⟩
           have bY : Below X9.heap.size X9 Y := by rw [hY]; exact (Below.refl _ _).drew
           have kY := Lh (hX9.out.trans (bY.mono hX9.out.size))
           have rY := Lh (show Below X9.heap.size X9 Y from bY)
           clear bY
           replace hY := Lh hY
           replace hAe0 := Lh hAe0; replace hBe0 := Lh hBe0
           as_aux_lemma =>
           go_wp2_with (fail)
           refine wp_region_held_drew (S := (fun W' : World => Below X9.heap.size X9 W')) (by kernel_rfl) ?_ (fun hH => ?_)
           ·
            try rw [← hY.out]
            exact rY.out
           refine tl 0 hH ?_
           refine tk (i := 1) (v := ?_) (hy := .inl ⟨by rfl, by intro w hSw; have u : w.cell? ⟨v.heap.size, 7, none⟩ = some (.slice (some ⟨ab0, ao0, none⟩) x.tak.length cT) := (hSw.cell (p := ⟨v.heap.size, _, none⟩) tx).trans t7; go_simp; first | done | with_reducible rfl⟩) (hS := hH) (h := ?_)
           refine tl 2 hH ?_
           refine tl 3 hH ?_
           refine tk (i := 4) (v := ?_) (hy := .inl ⟨by rfl, by intro w hSw; have u0 := (hSw.cell (p := ⟨ab0, _, none⟩) al0).trans s0_0; go_simp; first | done | with_reducible rfl⟩) (hS := hH) (h := ?_)
           refine tl 5 hH ?_
           refine tk (i := 6) (v := ?_) (hy := .inl ⟨by rfl, by intro w hSw; have u : w.cell? ⟨v.heap.size + 1, 7, none⟩ = some (.slice (some ⟨bb0, bo0, none⟩) x.tak.length dT) := (hSw.cell (p := ⟨v.heap.size + 1, _, none⟩) wx).trans w7; go_simp; first | done | with_reducible rfl⟩) (hS := hH) (h := ?_)
           refine tl 7 hH ?_
           refine tl 8 hH ?_
           refine tk (i := 9) (v := ?_) (hy := .inl ⟨by rfl, by intro w hSw; have u0 := (hSw.cell (p := ⟨bb0, _, none⟩) bl0).trans r0_0; go_simp; first | done | with_reducible rfl⟩) (hS := hH) (h := ?_)
           refine tl 10 hH ?_
           refine wpAnyH_done (by kernel_rfl) ?_ _
           clear hH
           go_wp2_with (fail)
           try rw [← hY.out]
           exact ⟨⟨kY.out, j + 1, by omega, by go_num⟩, by simp [intOf]; omega⟩
          ·
           have hje : j = x.tak.length := by omega
           have j2 : ((j : Int) < (x.tak.length : Int)) = False := eq_false (by omega)
           go_wp2_with (fail)
           clear tx wx j2 t7 w7
           go_ret
           exact ⟨rfl, k1.out.trans (hX9.out.mono k1.out.size)⟩
end Go.Proofs.YtgnjnpddehdmcaaGreatDoor
