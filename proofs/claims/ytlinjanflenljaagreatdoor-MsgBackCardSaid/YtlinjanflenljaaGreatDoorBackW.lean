/- The bytes of a message are read as this message: the walk. -/
import Derived.Test.YtlinjanflenljaaGreatDoorCutsW
namespace Go.Proofs.YtlinjanflenljaaGreatDoor
open Go.RowKit
set_option linter.unusedSimpArgs false
set_option linter.unusedVariables false
set_option linter.unusedSectionVars false
set_option maxRecDepth 10000
theorem equal_zero_any (A : Option Addr) (c : Nat) (w : World) (hE : ES w A zeroMg.l.length zeroMg.l) : Calls Tryz.prog 19 #[.agg #[.int .i64 zeroMg.k, .int .i64 zeroMg.fr, .int .i64 zeroMg.tt, .int .i64 zeroMg.ro, .int .i64 zeroMg.no, .int .i64 zeroMg.sl, .int .i64 zeroMg.nu, .string (sOf zeroMg.v), .slice A zeroMg.l.length c], .agg #[.int .i64 0, .int .i64 0, .int .i64 0, .int .i64 0, .int .i64 0, .int .i64 0, .int .i64 0, .string ⟨#[]⟩, .slice none 0 0]] w fun e w' => e = .returned (.bool true) ∧ Below w.heap.size w w' := by
  have h := equal_m zeroMg zeroMg A none c 0 w hE (SL.nil _ _) (by decide) (by decide)
  rw [show decide (zeroMg = zeroMg) = true from decide_eq_true rfl] at h
  exact h
set_option maxHeartbeats 32000000 in
theorem back_walk (m : Mg) (A : Option Addr) (c : Nat) (B : Option Addr) (nb cb : Nat) (xs : List UInt8) (w : World) (hL : Ldr w) (hI : IsM w m A c) (hB : RB w B nb xs) (hcb : nb ≤ cb) (hnb : nb ≤ 140737488355328) :
    Calls Tryz.prog 4 #[.agg #[.int .i64 m.k, .int .i64 m.fr, .int .i64 m.tt, .int .i64 m.ro, .int .i64 m.no, .int .i64 m.sl, .int .i64 m.nu, .string (sOf m.v), .slice A m.l.length c], .slice B nb cb] w fun e w' => e = .returned (.bool true) ∧ Below w.heap.size w w' := by
  obtain ⟨U, hU⟩ : ∃ U, U = w.alloc (.cells #[.int .i64 m.k, .int .i64 m.fr, .int .i64 m.tt, .int .i64 m.ro, .int .i64 m.no, .int .i64 m.sl, .int .i64 m.nu, .string (sOf m.v), .slice A m.l.length c] 28) := ⟨_, rfl⟩
  have kx : Below w.heap.size w U := by rw [hU]; exact (Below.refl _ w).alloc (Nat.le_refl _) _
  have hBz : U.heap[w.heap.size]? = some (.cells #[.int .i64 m.k, .int .i64 m.fr, .int .i64 m.tt, .int .i64 m.ro, .int .i64 m.no, .int .i64 m.sl, .int .i64 m.nu, .string (sOf m.v), .slice A m.l.length c] 28 (0, 0)) := by rw [hU]; exact hpNew w _
  replace hL := Lib.hid hL; replace hI := Lib.hid hI; replace hB := Lib.hid hB; replace hBz := Lib.hid hBz; replace kx := Lib.hid kx
  go_enter Tryz.func4, Tryz.ntmps4
  go_wp2_with (fail)
  rw [← hU]
  clear hU
  refine (short_any m A c U (hI.out.keep kx.out)).mono ?_
  rintro e W1 ⟨⟨b, rfl, hsh⟩, b1⟩
  have kx1 := Lib.hid (kx.out.trans (b1.mono kx.out.size))
  have hBz_1 := Lib.hid ((b1.block _ (blkX hBz.out)).trans hBz.out)
  replace hsh := Lib.hid hsh
  clear b1 kx; have kx := kx1; clear kx1
  clear hBz; have hBz := hBz_1; clear hBz_1
  have z0 : W1.cell? ⟨w.heap.size, 0, none⟩ = some (.int .i64 m.k) := blkC hBz.out 0
  have z1 : W1.cell? ⟨w.heap.size, 1, none⟩ = some (.int .i64 m.fr) := blkC hBz.out 1
  have z2 : W1.cell? ⟨w.heap.size, 2, none⟩ = some (.int .i64 m.tt) := blkC hBz.out 2
  have z3 : W1.cell? ⟨w.heap.size, 3, none⟩ = some (.int .i64 m.ro) := blkC hBz.out 3
  have z4 : W1.cell? ⟨w.heap.size, 4, none⟩ = some (.int .i64 m.no) := blkC hBz.out 4
  have z5 : W1.cell? ⟨w.heap.size, 5, none⟩ = some (.int .i64 m.sl) := blkC hBz.out 5
  have z6 : W1.cell? ⟨w.heap.size, 6, none⟩ = some (.int .i64 m.nu) := blkC hBz.out 6
  have z7 : W1.cell? ⟨w.heap.size, 7, none⟩ = some (.string (sOf m.v)) := blkC hBz.out 7
  have z8 : W1.cell? ⟨w.heap.size, 8, none⟩ = some (.slice A m.l.length c) := blkC hBz.out 8
  have lz := blkX hBz.out
  by_cases hstop : b = true ∧ ¬ 500 < nb
  rotate_left
  · have hs2 : (b = false) ∨ (b = true ∧ 500 < nb) := by cases b <;> simp at hstop ⊢ <;> omega
    clear hstop
    rcases hs2 with rfl | ⟨rfl, hn⟩
    · go_wp2_with (fail)
      refine (works_any _ (hL.out.keep kx.out)).mono ?_
      rintro e W2 ⟨rfl, bv⟩
      have kx2 := Lib.hid (kx.out.trans (bv.mono kx.out.size))
      have hBz_2 := Lib.hid ((bv.block _ (blkX hBz.out)).trans hBz.out)
      clear z0 z1 z2 z3 z4 z5 z6 z7 z8 lz 
      clear bv kx; have kx := kx2; clear kx2
      clear hBz; have hBz := hBz_2; clear hBz_2
      go_wp2_with (fail)
      go_ret
      exact ⟨rfl, kx.out⟩
    · have hn2 : (500 : Int) < (nb : Int) := by omega
      go_wp2_with (fail)
      refine (works_any _ (hL.out.keep kx.out)).mono ?_
      rintro e W2 ⟨rfl, bv⟩
      have kx2 := Lib.hid (kx.out.trans (bv.mono kx.out.size))
      have hBz_2 := Lib.hid ((bv.block _ (blkX hBz.out)).trans hBz.out)
      clear z0 z1 z2 z3 z4 z5 z6 z7 z8 lz 
      clear bv kx; have kx := kx2; clear kx2
      clear hBz; have hBz := hBz_2; clear hBz_2
      go_wp2_with (fail)
      go_ret
      exact ⟨rfl, kx.out⟩
  obtain ⟨rfl, hn⟩ := hstop
  have hn2 : ¬ (500 : Int) < (nb : Int) := by omega
  go_wp2_with (fail)
  refine (enc_any m A c _ (hL.out.keep kx.out) (SL.keep hI.out.es kx.out) (by have := hI.out.n; omega)).mono ?_
  rintro e W2 ⟨A2, c2, rfl, o2, b2⟩
  have kx2 := Lib.hid (kx.out.trans (b2.mono kx.out.size))
  have hBz_2 := Lib.hid ((b2.block _ (blkX hBz.out)).trans hBz.out)
  have hr2 := Lib.hid (RB.of_own o2)
  have hcap2 := Lib.hid (own_shape o2)
  clear o2
  clear z0 z1 z2 z3 z4 z5 z6 z7 z8 lz 
  clear b2 kx; have kx := kx2; clear kx2
  clear hBz; have hBz := hBz_2; clear hBz_2
  obtain ⟨L2, hL2⟩ : ∃ L2, (encB m).length = L2 := ⟨_, rfl⟩
  rw [hL2] at hr2 hcap2 ⊢
  replace hL2 := Lib.hid hL2
  have z0 : W2.cell? ⟨w.heap.size, 0, none⟩ = some (.int .i64 m.k) := blkC hBz.out 0
  have z1 : W2.cell? ⟨w.heap.size, 1, none⟩ = some (.int .i64 m.fr) := blkC hBz.out 1
  have z2 : W2.cell? ⟨w.heap.size, 2, none⟩ = some (.int .i64 m.tt) := blkC hBz.out 2
  have z3 : W2.cell? ⟨w.heap.size, 3, none⟩ = some (.int .i64 m.ro) := blkC hBz.out 3
  have z4 : W2.cell? ⟨w.heap.size, 4, none⟩ = some (.int .i64 m.no) := blkC hBz.out 4
  have z5 : W2.cell? ⟨w.heap.size, 5, none⟩ = some (.int .i64 m.sl) := blkC hBz.out 5
  have z6 : W2.cell? ⟨w.heap.size, 6, none⟩ = some (.int .i64 m.nu) := blkC hBz.out 6
  have z7 : W2.cell? ⟨w.heap.size, 7, none⟩ = some (.string (sOf m.v)) := blkC hBz.out 7
  have z8 : W2.cell? ⟨w.heap.size, 8, none⟩ = some (.slice A m.l.length c) := blkC hBz.out 8
  have lz := blkX hBz.out
  go_wp2_with (fail)
  refine (check_m m A c _ (hL.out.keep kx.out) (SL.keep hI.out.es kx.out) (by have := hI.out.n; omega)).mono ?_
  rintro e W3 ⟨rfl, b3⟩
  have kx3 := Lib.hid (kx.out.trans (b3.mono kx.out.size))
  have hBz_3 := Lib.hid ((b3.block _ (blkX hBz.out)).trans hBz.out)
  have hr3 := Lib.hid (hr2.out.below b3)
  clear hr2; have hr2 := hr3; clear hr3
  clear z0 z1 z2 z3 z4 z5 z6 z7 z8 lz 
  clear b3 kx; have kx := kx3; clear kx3
  clear hBz; have hBz := hBz_3; clear hBz_3
  have z0 : W3.cell? ⟨w.heap.size, 0, none⟩ = some (.int .i64 m.k) := blkC hBz.out 0
  have z1 : W3.cell? ⟨w.heap.size, 1, none⟩ = some (.int .i64 m.fr) := blkC hBz.out 1
  have z2 : W3.cell? ⟨w.heap.size, 2, none⟩ = some (.int .i64 m.tt) := blkC hBz.out 2
  have z3 : W3.cell? ⟨w.heap.size, 3, none⟩ = some (.int .i64 m.ro) := blkC hBz.out 3
  have z4 : W3.cell? ⟨w.heap.size, 4, none⟩ = some (.int .i64 m.no) := blkC hBz.out 4
  have z5 : W3.cell? ⟨w.heap.size, 5, none⟩ = some (.int .i64 m.sl) := blkC hBz.out 5
  have z6 : W3.cell? ⟨w.heap.size, 6, none⟩ = some (.int .i64 m.nu) := blkC hBz.out 6
  have z7 : W3.cell? ⟨w.heap.size, 7, none⟩ = some (.string (sOf m.v)) := blkC hBz.out 7
  have z8 : W3.cell? ⟨w.heap.size, 8, none⟩ = some (.slice A m.l.length c) := blkC hBz.out 8
  have lz := blkX hBz.out
  generalize hzz : encE m = ez at *
  replace hzz := Lib.hid hzz
  by_cases h0 : ez = 0
  · subst h0
    have hz0 := hzz.out
    have hEB : encB m = bytesM m := by unfold encB; rw [if_pos hz0]
    have hr3 := hr2.out
    rw [hEB] at hr3
    have hmx := (encE_ok hz0).2.2
    have hL2b : L2 ≤ 1048576 := by have := hL2.out; rw [hEB] at this; omega
    have hback := dec_back m hz0
    replace hz0 := Lib.hid hz0; replace hEB := Lib.hid hEB
    replace hr3 := Lib.hid hr3
    go_wp2_with (fail)
    refine (dec_msg_any (c := c2) (hL.out.keep kx.out) hr3.out (by omega) hback).mono ?_
    rintro e W4 ⟨A3, c3, rfl, hES3, b4⟩
    have kx4 := Lib.hid (kx.out.trans (b4.mono kx.out.size))
    have hBz_4 := Lib.hid ((b4.block _ (blkX hBz.out)).trans hBz.out)
    replace hES3 := Lib.hid hES3
    clear z0 z1 z2 z3 z4 z5 z6 z7 z8 lz 
    clear b4 kx; have kx := kx4; clear kx4
    clear hBz; have hBz := hBz_4; clear hBz_4
    have z0 : W4.cell? ⟨w.heap.size, 0, none⟩ = some (.int .i64 m.k) := blkC hBz.out 0
    have z1 : W4.cell? ⟨w.heap.size, 1, none⟩ = some (.int .i64 m.fr) := blkC hBz.out 1
    have z2 : W4.cell? ⟨w.heap.size, 2, none⟩ = some (.int .i64 m.tt) := blkC hBz.out 2
    have z3 : W4.cell? ⟨w.heap.size, 3, none⟩ = some (.int .i64 m.ro) := blkC hBz.out 3
    have z4 : W4.cell? ⟨w.heap.size, 4, none⟩ = some (.int .i64 m.no) := blkC hBz.out 4
    have z5 : W4.cell? ⟨w.heap.size, 5, none⟩ = some (.int .i64 m.sl) := blkC hBz.out 5
    have z6 : W4.cell? ⟨w.heap.size, 6, none⟩ = some (.int .i64 m.nu) := blkC hBz.out 6
    have z7 : W4.cell? ⟨w.heap.size, 7, none⟩ = some (.string (sOf m.v)) := blkC hBz.out 7
    have z8 : W4.cell? ⟨w.heap.size, 8, none⟩ = some (.slice A m.l.length c) := blkC hBz.out 8
    have lz := blkX hBz.out
    obtain ⟨W5, hW5⟩ : ∃ W', W' = W4.alloc (.cells #[.int .i64 m.k, .int .i64 m.fr, .int .i64 m.tt, .int .i64 m.ro, .int .i64 m.no, .int .i64 m.sl, .int .i64 m.nu, .string (sOf m.v), .slice A3 m.l.length c3] 28) := ⟨_, rfl⟩
    have bb : Below W4.heap.size W4 W5 := by rw [hW5]; exact (Below.refl _ W4).alloc (Nat.le_refl _) _
    have hBy := Lib.hid (show W5.heap[W4.heap.size]? = some (.cells #[.int .i64 m.k, .int .i64 m.fr, .int .i64 m.tt, .int .i64 m.ro, .int .i64 m.no, .int .i64 m.sl, .int .i64 m.nu, .string (sOf m.v), .slice A3 m.l.length c3] 28 (0, 0)) from by rw [hW5]; exact hpNew W4 _)
    have kx5 := Lib.hid (kx.out.trans (bb.mono kx.out.size))
    have hBz_5 := Lib.hid ((bb.block _ (blkX hBz.out)).trans hBz.out)
    have hES5 := Lib.hid (SL.keep hES3.out bb)
    clear hES3; have hES3 := hES5; clear hES5
    clear bb kx; have kx := kx5; clear kx5
    clear hBz; have hBz := hBz_5; clear hBz_5
    go_wp2_with (fail)
    rw [← hW5]
    refine (equal_m m m A3 A c3 c _ hES3.out (SL.keep hI.out.es kx.out) (by have := hI.out.n; omega) (by have := hI.out.n; omega)).mono ?_
    rintro e W6 ⟨rfl, b5⟩
    have kx6 := Lib.hid (kx.out.trans (b5.mono kx.out.size))
    have hBz_6 := Lib.hid ((b5.block _ (blkX hBz.out)).trans hBz.out)
    have hBy_6 := Lib.hid ((b5.block _ (blkX hBy.out)).trans hBy.out)
    clear z0 z1 z2 z3 z4 z5 z6 z7 z8 lz 
    clear b5 kx; have kx := kx6; clear kx6
    clear hBz; have hBz := hBz_6; clear hBz_6
    clear hBy; have hBy := hBy_6; clear hBy_6
    rw [show decide (m = m) = true from decide_eq_true rfl]
    have z0 : W6.cell? ⟨w.heap.size, 0, none⟩ = some (.int .i64 m.k) := blkC hBz.out 0
    have z1 : W6.cell? ⟨w.heap.size, 1, none⟩ = some (.int .i64 m.fr) := blkC hBz.out 1
    have z2 : W6.cell? ⟨w.heap.size, 2, none⟩ = some (.int .i64 m.tt) := blkC hBz.out 2
    have z3 : W6.cell? ⟨w.heap.size, 3, none⟩ = some (.int .i64 m.ro) := blkC hBz.out 3
    have z4 : W6.cell? ⟨w.heap.size, 4, none⟩ = some (.int .i64 m.no) := blkC hBz.out 4
    have z5 : W6.cell? ⟨w.heap.size, 5, none⟩ = some (.int .i64 m.sl) := blkC hBz.out 5
    have z6 : W6.cell? ⟨w.heap.size, 6, none⟩ = some (.int .i64 m.nu) := blkC hBz.out 6
    have z7 : W6.cell? ⟨w.heap.size, 7, none⟩ = some (.string (sOf m.v)) := blkC hBz.out 7
    have z8 : W6.cell? ⟨w.heap.size, 8, none⟩ = some (.slice A m.l.length c) := blkC hBz.out 8
    have lz := blkX hBz.out
    have y0 : W6.cell? ⟨W4.heap.size, 0, none⟩ = some (.int .i64 m.k) := blkC hBy.out 0
    have y1 : W6.cell? ⟨W4.heap.size, 1, none⟩ = some (.int .i64 m.fr) := blkC hBy.out 1
    have y2 : W6.cell? ⟨W4.heap.size, 2, none⟩ = some (.int .i64 m.tt) := blkC hBy.out 2
    have y3 : W6.cell? ⟨W4.heap.size, 3, none⟩ = some (.int .i64 m.ro) := blkC hBy.out 3
    have y4 : W6.cell? ⟨W4.heap.size, 4, none⟩ = some (.int .i64 m.no) := blkC hBy.out 4
    have y5 : W6.cell? ⟨W4.heap.size, 5, none⟩ = some (.int .i64 m.sl) := blkC hBy.out 5
    have y6 : W6.cell? ⟨W4.heap.size, 6, none⟩ = some (.int .i64 m.nu) := blkC hBy.out 6
    have y7 : W6.cell? ⟨W4.heap.size, 7, none⟩ = some (.string (sOf m.v)) := blkC hBy.out 7
    have y8 : W6.cell? ⟨W4.heap.size, 8, none⟩ = some (.slice A3 m.l.length c3) := blkC hBy.out 8
    have ly := blkX hBy.out
    go_wp2_with (fail)
    obtain ⟨⟨M, y⟩, hD⟩ : ∃ D, decM xs = D := ⟨_, rfl⟩
    refine (dec_msg_any (c := cb) (hL.out.keep kx.out) (hB.out.below kx.out) (by omega) hD).mono ?_
    rintro e W7 ⟨A4, c4, rfl, hES4, b4⟩
    have kx7 := Lib.hid (kx.out.trans (b4.mono kx.out.size))
    have hBz_7 := Lib.hid ((b4.block _ (blkX hBz.out)).trans hBz.out)
    have hBy_7 := Lib.hid ((b4.block _ (blkX hBy.out)).trans hBy.out)
    replace hES4 := Lib.hid hES4
    clear z0 z1 z2 z3 z4 z5 z6 z7 z8 lz y0 y1 y2 y3 y4 y5 y6 y7 y8 ly 
    clear b4 kx; have kx := kx7; clear kx7
    clear hBz; have hBz := hBz_7; clear hBz_7
    clear hBy; have hBy := hBy_7; clear hBy_7
    have z0 : W7.cell? ⟨w.heap.size, 0, none⟩ = some (.int .i64 m.k) := blkC hBz.out 0
    have z1 : W7.cell? ⟨w.heap.size, 1, none⟩ = some (.int .i64 m.fr) := blkC hBz.out 1
    have z2 : W7.cell? ⟨w.heap.size, 2, none⟩ = some (.int .i64 m.tt) := blkC hBz.out 2
    have z3 : W7.cell? ⟨w.heap.size, 3, none⟩ = some (.int .i64 m.ro) := blkC hBz.out 3
    have z4 : W7.cell? ⟨w.heap.size, 4, none⟩ = some (.int .i64 m.no) := blkC hBz.out 4
    have z5 : W7.cell? ⟨w.heap.size, 5, none⟩ = some (.int .i64 m.sl) := blkC hBz.out 5
    have z6 : W7.cell? ⟨w.heap.size, 6, none⟩ = some (.int .i64 m.nu) := blkC hBz.out 6
    have z7 : W7.cell? ⟨w.heap.size, 7, none⟩ = some (.string (sOf m.v)) := blkC hBz.out 7
    have z8 : W7.cell? ⟨w.heap.size, 8, none⟩ = some (.slice A m.l.length c) := blkC hBz.out 8
    have lz := blkX hBz.out
    have y0 : W7.cell? ⟨W4.heap.size, 0, none⟩ = some (.int .i64 m.k) := blkC hBy.out 0
    have y1 : W7.cell? ⟨W4.heap.size, 1, none⟩ = some (.int .i64 m.fr) := blkC hBy.out 1
    have y2 : W7.cell? ⟨W4.heap.size, 2, none⟩ = some (.int .i64 m.tt) := blkC hBy.out 2
    have y3 : W7.cell? ⟨W4.heap.size, 3, none⟩ = some (.int .i64 m.ro) := blkC hBy.out 3
    have y4 : W7.cell? ⟨W4.heap.size, 4, none⟩ = some (.int .i64 m.no) := blkC hBy.out 4
    have y5 : W7.cell? ⟨W4.heap.size, 5, none⟩ = some (.int .i64 m.sl) := blkC hBy.out 5
    have y6 : W7.cell? ⟨W4.heap.size, 6, none⟩ = some (.int .i64 m.nu) := blkC hBy.out 6
    have y7 : W7.cell? ⟨W4.heap.size, 7, none⟩ = some (.string (sOf m.v)) := blkC hBy.out 7
    have y8 : W7.cell? ⟨W4.heap.size, 8, none⟩ = some (.slice A3 m.l.length c3) := blkC hBy.out 8
    have ly := blkX hBy.out
    obtain ⟨W8, hW8⟩ : ∃ W', W' = W7.alloc (.cells #[.int .i64 M.k, .int .i64 M.fr, .int .i64 M.tt, .int .i64 M.ro, .int .i64 M.no, .int .i64 M.sl, .int .i64 M.nu, .string (sOf M.v), .slice A4 M.l.length c4] 28) := ⟨_, rfl⟩
    have bb : Below W7.heap.size W7 W8 := by rw [hW8]; exact (Below.refl _ W7).alloc (Nat.le_refl _) _
    have hBn := Lib.hid (show W8.heap[W7.heap.size]? = some (.cells #[.int .i64 M.k, .int .i64 M.fr, .int .i64 M.tt, .int .i64 M.ro, .int .i64 M.no, .int .i64 M.sl, .int .i64 M.nu, .string (sOf M.v), .slice A4 M.l.length c4] 28 (0, 0)) from by rw [hW8]; exact hpNew W7 _)
    have kx8 := Lib.hid (kx.out.trans (bb.mono kx.out.size))
    have hBz_8 := Lib.hid ((bb.block _ (blkX hBz.out)).trans hBz.out)
    have hBy_8 := Lib.hid ((bb.block _ (blkX hBy.out)).trans hBy.out)
    have hES5 := Lib.hid (SL.keep hES4.out bb)
    clear hES4; have hES4 := hES5; clear hES5
    clear bb kx; have kx := kx8; clear kx8
    clear hBz; have hBz := hBz_8; clear hBz_8
    clear hBy; have hBy := hBy_8; clear hBy_8
    have hne : y = 0 ∨ (y = 10 ∧ M = zeroMg) := by
      rcases Classical.em ((decM xs).2 = 0) with h | h
      · rw [hD] at h; exact .inl h
      · rcases dec_err h with h | ⟨h, h2⟩
        · rw [hD] at h; injection h with h1 h2; exact .inr ⟨h2, h1⟩
        · have := hB.out.1; omega
    rcases hne with rfl | ⟨rfl, rfl⟩
    · have hfr := dec_from (b := xs) (by rw [hD])
      rw [hD] at hfr
      obtain ⟨hf1, hf2⟩ := hfr
      dsimp only at hf1 hf2
      skip
      skip
      go_wp2_with (fail)
      rw [← hW8]
      refine (enc_any M A4 c4 _ (hL.out.keep kx.out) hES4.out (by have := (fit_of (encE_ok hf1).1 (encE_ok hf1).2.1).ln; omega)).mono ?_
      rintro e W9 ⟨A5, c5, rfl, o5, b5⟩
      have kx9 := Lib.hid (kx.out.trans (b5.mono kx.out.size))
      have hBz_9 := Lib.hid ((b5.block _ (blkX hBz.out)).trans hBz.out)
      have hBy_9 := Lib.hid ((b5.block _ (blkX hBy.out)).trans hBy.out)
      have hBn_9 := Lib.hid ((b5.block _ (blkX hBn.out)).trans hBn.out)
      have hr5 := RB.of_own o5
      clear o5
      clear z0 z1 z2 z3 z4 z5 z6 z7 z8 lz y0 y1 y2 y3 y4 y5 y6 y7 y8 ly 
      clear b5 kx; have kx := kx9; clear kx9
      clear hBz; have hBz := hBz_9; clear hBz_9
      clear hBy; have hBy := hBy_9; clear hBy_9
      clear hBn; have hBn := hBn_9; clear hBn_9
      have hEB : encB M = xs := by unfold encB; rw [if_pos hf1, hf2]
      rw [hEB] at hr5 ⊢
      rw [hf1]
      have hq1 := hr5.str c5
      have hbB := hB.out.below kx.out
      have hq2 := hbB.str cb
      obtain ⟨L5, hL5⟩ : ∃ L5, xs.length = L5 := ⟨_, rfl⟩
      rw [hL5] at hq1 ⊢
      obtain ⟨SX, hSX⟩ : ∃ SX : ByteArray, (⟨xs.toArray⟩ : ByteArray) = SX := ⟨_, rfl⟩
      rw [hSX] at hq1 hq2
      replace hr5 := Lib.hid hr5; replace hbB := Lib.hid hbB; replace hL5 := Lib.hid hL5; replace hSX := Lib.hid hSX; replace hEB := Lib.hid hEB; replace hf1 := Lib.hid hf1; replace hf2 := Lib.hid hf2; replace hD := Lib.hid hD
      have z0 : W9.cell? ⟨w.heap.size, 0, none⟩ = some (.int .i64 m.k) := blkC hBz.out 0
      have z1 : W9.cell? ⟨w.heap.size, 1, none⟩ = some (.int .i64 m.fr) := blkC hBz.out 1
      have z2 : W9.cell? ⟨w.heap.size, 2, none⟩ = some (.int .i64 m.tt) := blkC hBz.out 2
      have z3 : W9.cell? ⟨w.heap.size, 3, none⟩ = some (.int .i64 m.ro) := blkC hBz.out 3
      have z4 : W9.cell? ⟨w.heap.size, 4, none⟩ = some (.int .i64 m.no) := blkC hBz.out 4
      have z5 : W9.cell? ⟨w.heap.size, 5, none⟩ = some (.int .i64 m.sl) := blkC hBz.out 5
      have z6 : W9.cell? ⟨w.heap.size, 6, none⟩ = some (.int .i64 m.nu) := blkC hBz.out 6
      have z7 : W9.cell? ⟨w.heap.size, 7, none⟩ = some (.string (sOf m.v)) := blkC hBz.out 7
      have z8 : W9.cell? ⟨w.heap.size, 8, none⟩ = some (.slice A m.l.length c) := blkC hBz.out 8
      have lz := blkX hBz.out
      have y0 : W9.cell? ⟨W4.heap.size, 0, none⟩ = some (.int .i64 m.k) := blkC hBy.out 0
      have y1 : W9.cell? ⟨W4.heap.size, 1, none⟩ = some (.int .i64 m.fr) := blkC hBy.out 1
      have y2 : W9.cell? ⟨W4.heap.size, 2, none⟩ = some (.int .i64 m.tt) := blkC hBy.out 2
      have y3 : W9.cell? ⟨W4.heap.size, 3, none⟩ = some (.int .i64 m.ro) := blkC hBy.out 3
      have y4 : W9.cell? ⟨W4.heap.size, 4, none⟩ = some (.int .i64 m.no) := blkC hBy.out 4
      have y5 : W9.cell? ⟨W4.heap.size, 5, none⟩ = some (.int .i64 m.sl) := blkC hBy.out 5
      have y6 : W9.cell? ⟨W4.heap.size, 6, none⟩ = some (.int .i64 m.nu) := blkC hBy.out 6
      have y7 : W9.cell? ⟨W4.heap.size, 7, none⟩ = some (.string (sOf m.v)) := blkC hBy.out 7
      have y8 : W9.cell? ⟨W4.heap.size, 8, none⟩ = some (.slice A3 m.l.length c3) := blkC hBy.out 8
      have ly := blkX hBy.out
      have n0 : W9.cell? ⟨W7.heap.size, 0, none⟩ = some (.int .i64 M.k) := blkC hBn.out 0
      have n1 : W9.cell? ⟨W7.heap.size, 1, none⟩ = some (.int .i64 M.fr) := blkC hBn.out 1
      have n2 : W9.cell? ⟨W7.heap.size, 2, none⟩ = some (.int .i64 M.tt) := blkC hBn.out 2
      have n3 : W9.cell? ⟨W7.heap.size, 3, none⟩ = some (.int .i64 M.ro) := blkC hBn.out 3
      have n4 : W9.cell? ⟨W7.heap.size, 4, none⟩ = some (.int .i64 M.no) := blkC hBn.out 4
      have n5 : W9.cell? ⟨W7.heap.size, 5, none⟩ = some (.int .i64 M.sl) := blkC hBn.out 5
      have n6 : W9.cell? ⟨W7.heap.size, 6, none⟩ = some (.int .i64 M.nu) := blkC hBn.out 6
      have n7 : W9.cell? ⟨W7.heap.size, 7, none⟩ = some (.string (sOf M.v)) := blkC hBn.out 7
      have n8 : W9.cell? ⟨W7.heap.size, 8, none⟩ = some (.slice A4 M.l.length c4) := blkC hBn.out 8
      have ln := blkX hBn.out
      go_wp2_with (fail)
      refine (works_any _ (hL.out.keep kx.out)).mono ?_
      rintro e W10 ⟨rfl, bv⟩
      have kx10 := Lib.hid (kx.out.trans (bv.mono kx.out.size))
      have hBz_10 := Lib.hid ((bv.block _ (blkX hBz.out)).trans hBz.out)
      have hBy_10 := Lib.hid ((bv.block _ (blkX hBy.out)).trans hBy.out)
      have hBn_10 := Lib.hid ((bv.block _ (blkX hBn.out)).trans hBn.out)
      clear z0 z1 z2 z3 z4 z5 z6 z7 z8 lz y0 y1 y2 y3 y4 y5 y6 y7 y8 ly n0 n1 n2 n3 n4 n5 n6 n7 n8 ln 
      clear bv kx; have kx := kx10; clear kx10
      clear hBz; have hBz := hBz_10; clear hBz_10
      clear hBy; have hBy := hBy_10; clear hBy_10
      clear hBn; have hBn := hBn_10; clear hBn_10
      go_wp2_with (fail)
      go_ret
      exact ⟨rfl, kx.out⟩
    · replace hD := Lib.hid hD
      go_wp2_with (fail)
      rw [← hW8]
      refine (equal_zero_any A4 c4 _ hES4.out).mono ?_
      rintro e W9 ⟨rfl, b5⟩
      have kx9 := Lib.hid (kx.out.trans (b5.mono kx.out.size))
      have hBz_9 := Lib.hid ((b5.block _ (blkX hBz.out)).trans hBz.out)
      have hBy_9 := Lib.hid ((b5.block _ (blkX hBy.out)).trans hBy.out)
      have hBn_9 := Lib.hid ((b5.block _ (blkX hBn.out)).trans hBn.out)
      clear z0 z1 z2 z3 z4 z5 z6 z7 z8 lz y0 y1 y2 y3 y4 y5 y6 y7 y8 ly 
      clear b5 kx; have kx := kx9; clear kx9
      clear hBz; have hBz := hBz_9; clear hBz_9
      clear hBy; have hBy := hBy_9; clear hBy_9
      clear hBn; have hBn := hBn_9; clear hBn_9
      go_wp2_with (fail)
      refine (works_any _ (hL.out.keep kx.out)).mono ?_
      rintro e W10 ⟨rfl, bv⟩
      have kx10 := Lib.hid (kx.out.trans (bv.mono kx.out.size))
      have hBz_10 := Lib.hid ((bv.block _ (blkX hBz.out)).trans hBz.out)
      have hBy_10 := Lib.hid ((bv.block _ (blkX hBy.out)).trans hBy.out)
      have hBn_10 := Lib.hid ((bv.block _ (blkX hBn.out)).trans hBn.out)
      clear bv kx; have kx := kx10; clear kx10
      clear hBz; have hBz := hBz_10; clear hBz_10
      clear hBy; have hBy := hBy_10; clear hBy_10
      clear hBn; have hBn := hBn_10; clear hBn_10
      go_wp2_with (fail)
      go_ret
      exact ⟨rfl, kx.out⟩
  · have hz1 : (ez == 0) = false := by simp [h0]
    have hEB : encB m = [] := by unfold encB; rw [if_neg (by rw [hzz.out]; exact h0)]
    have hL20 : L2 = 0 := by rw [← hL2.out, hEB]; rfl
    subst hL20
    replace hEB := Lib.hid hEB
    go_wp2_with (fail)
    obtain ⟨⟨M, y⟩, hD⟩ : ∃ D, decM xs = D := ⟨_, rfl⟩
    refine (dec_msg_any (c := cb) (hL.out.keep kx.out) (hB.out.below kx.out) (by omega) hD).mono ?_
    rintro e W4 ⟨A4, c4, rfl, hES4, b4⟩
    have kx4 := Lib.hid (kx.out.trans (b4.mono kx.out.size))
    have hBz_4 := Lib.hid ((b4.block _ (blkX hBz.out)).trans hBz.out)
    replace hES4 := Lib.hid hES4
    clear z0 z1 z2 z3 z4 z5 z6 z7 z8 lz 
    clear b4 kx; have kx := kx4; clear kx4
    clear hBz; have hBz := hBz_4; clear hBz_4
    have z0 : W4.cell? ⟨w.heap.size, 0, none⟩ = some (.int .i64 m.k) := blkC hBz.out 0
    have z1 : W4.cell? ⟨w.heap.size, 1, none⟩ = some (.int .i64 m.fr) := blkC hBz.out 1
    have z2 : W4.cell? ⟨w.heap.size, 2, none⟩ = some (.int .i64 m.tt) := blkC hBz.out 2
    have z3 : W4.cell? ⟨w.heap.size, 3, none⟩ = some (.int .i64 m.ro) := blkC hBz.out 3
    have z4 : W4.cell? ⟨w.heap.size, 4, none⟩ = some (.int .i64 m.no) := blkC hBz.out 4
    have z5 : W4.cell? ⟨w.heap.size, 5, none⟩ = some (.int .i64 m.sl) := blkC hBz.out 5
    have z6 : W4.cell? ⟨w.heap.size, 6, none⟩ = some (.int .i64 m.nu) := blkC hBz.out 6
    have z7 : W4.cell? ⟨w.heap.size, 7, none⟩ = some (.string (sOf m.v)) := blkC hBz.out 7
    have z8 : W4.cell? ⟨w.heap.size, 8, none⟩ = some (.slice A m.l.length c) := blkC hBz.out 8
    have lz := blkX hBz.out
    obtain ⟨W5, hW5⟩ : ∃ W', W' = W4.alloc (.cells #[.int .i64 M.k, .int .i64 M.fr, .int .i64 M.tt, .int .i64 M.ro, .int .i64 M.no, .int .i64 M.sl, .int .i64 M.nu, .string (sOf M.v), .slice A4 M.l.length c4] 28) := ⟨_, rfl⟩
    have bb : Below W4.heap.size W4 W5 := by rw [hW5]; exact (Below.refl _ W4).alloc (Nat.le_refl _) _
    have hBn := Lib.hid (show W5.heap[W4.heap.size]? = some (.cells #[.int .i64 M.k, .int .i64 M.fr, .int .i64 M.tt, .int .i64 M.ro, .int .i64 M.no, .int .i64 M.sl, .int .i64 M.nu, .string (sOf M.v), .slice A4 M.l.length c4] 28 (0, 0)) from by rw [hW5]; exact hpNew W4 _)
    have kx5 := Lib.hid (kx.out.trans (bb.mono kx.out.size))
    have hBz_5 := Lib.hid ((bb.block _ (blkX hBz.out)).trans hBz.out)
    have hES5 := Lib.hid (SL.keep hES4.out bb)
    clear hES4; have hES4 := hES5; clear hES5
    clear bb kx; have kx := kx5; clear kx5
    clear hBz; have hBz := hBz_5; clear hBz_5
    have hne : y = 0 ∨ (y = 10 ∧ M = zeroMg) := by
      rcases Classical.em ((decM xs).2 = 0) with h | h
      · rw [hD] at h; exact .inl h
      · rcases dec_err h with h | ⟨h, h2⟩
        · rw [hD] at h; injection h with h1 h2; exact .inr ⟨h2, h1⟩
        · have := hB.out.1; omega
    rcases hne with rfl | ⟨rfl, rfl⟩
    · have hfr := dec_from (b := xs) (by rw [hD])
      rw [hD] at hfr
      obtain ⟨hf1, hf2⟩ := hfr
      dsimp only at hf1 hf2
      skip
      skip
      go_wp2_with (fail)
      rw [← hW5]
      refine (enc_any M A4 c4 _ (hL.out.keep kx.out) hES4.out (by have := (fit_of (encE_ok hf1).1 (encE_ok hf1).2.1).ln; omega)).mono ?_
      rintro e W6 ⟨A5, c5, rfl, o5, b5⟩
      have kx6 := Lib.hid (kx.out.trans (b5.mono kx.out.size))
      have hBz_6 := Lib.hid ((b5.block _ (blkX hBz.out)).trans hBz.out)
      have hBn_6 := Lib.hid ((b5.block _ (blkX hBn.out)).trans hBn.out)
      have hr5 := RB.of_own o5
      clear o5
      clear z0 z1 z2 z3 z4 z5 z6 z7 z8 lz 
      clear b5 kx; have kx := kx6; clear kx6
      clear hBz; have hBz := hBz_6; clear hBz_6
      clear hBn; have hBn := hBn_6; clear hBn_6
      have hEB : encB M = xs := by unfold encB; rw [if_pos hf1, hf2]
      rw [hEB] at hr5 ⊢
      rw [hf1]
      have hq1 := hr5.str c5
      have hbB := hB.out.below kx.out
      have hq2 := hbB.str cb
      obtain ⟨L5, hL5⟩ : ∃ L5, xs.length = L5 := ⟨_, rfl⟩
      rw [hL5] at hq1 ⊢
      obtain ⟨SX, hSX⟩ : ∃ SX : ByteArray, (⟨xs.toArray⟩ : ByteArray) = SX := ⟨_, rfl⟩
      rw [hSX] at hq1 hq2
      replace hr5 := Lib.hid hr5; replace hbB := Lib.hid hbB; replace hL5 := Lib.hid hL5; replace hSX := Lib.hid hSX; replace hEB := Lib.hid hEB; replace hf1 := Lib.hid hf1; replace hf2 := Lib.hid hf2; replace hD := Lib.hid hD
      have z0 : W6.cell? ⟨w.heap.size, 0, none⟩ = some (.int .i64 m.k) := blkC hBz.out 0
      have z1 : W6.cell? ⟨w.heap.size, 1, none⟩ = some (.int .i64 m.fr) := blkC hBz.out 1
      have z2 : W6.cell? ⟨w.heap.size, 2, none⟩ = some (.int .i64 m.tt) := blkC hBz.out 2
      have z3 : W6.cell? ⟨w.heap.size, 3, none⟩ = some (.int .i64 m.ro) := blkC hBz.out 3
      have z4 : W6.cell? ⟨w.heap.size, 4, none⟩ = some (.int .i64 m.no) := blkC hBz.out 4
      have z5 : W6.cell? ⟨w.heap.size, 5, none⟩ = some (.int .i64 m.sl) := blkC hBz.out 5
      have z6 : W6.cell? ⟨w.heap.size, 6, none⟩ = some (.int .i64 m.nu) := blkC hBz.out 6
      have z7 : W6.cell? ⟨w.heap.size, 7, none⟩ = some (.string (sOf m.v)) := blkC hBz.out 7
      have z8 : W6.cell? ⟨w.heap.size, 8, none⟩ = some (.slice A m.l.length c) := blkC hBz.out 8
      have lz := blkX hBz.out
      have n0 : W6.cell? ⟨W4.heap.size, 0, none⟩ = some (.int .i64 M.k) := blkC hBn.out 0
      have n1 : W6.cell? ⟨W4.heap.size, 1, none⟩ = some (.int .i64 M.fr) := blkC hBn.out 1
      have n2 : W6.cell? ⟨W4.heap.size, 2, none⟩ = some (.int .i64 M.tt) := blkC hBn.out 2
      have n3 : W6.cell? ⟨W4.heap.size, 3, none⟩ = some (.int .i64 M.ro) := blkC hBn.out 3
      have n4 : W6.cell? ⟨W4.heap.size, 4, none⟩ = some (.int .i64 M.no) := blkC hBn.out 4
      have n5 : W6.cell? ⟨W4.heap.size, 5, none⟩ = some (.int .i64 M.sl) := blkC hBn.out 5
      have n6 : W6.cell? ⟨W4.heap.size, 6, none⟩ = some (.int .i64 M.nu) := blkC hBn.out 6
      have n7 : W6.cell? ⟨W4.heap.size, 7, none⟩ = some (.string (sOf M.v)) := blkC hBn.out 7
      have n8 : W6.cell? ⟨W4.heap.size, 8, none⟩ = some (.slice A4 M.l.length c4) := blkC hBn.out 8
      have ln := blkX hBn.out
      go_wp2_with (fail)
      refine (works_any _ (hL.out.keep kx.out)).mono ?_
      rintro e W7 ⟨rfl, bv⟩
      have kx7 := Lib.hid (kx.out.trans (bv.mono kx.out.size))
      have hBz_7 := Lib.hid ((bv.block _ (blkX hBz.out)).trans hBz.out)
      have hBn_7 := Lib.hid ((bv.block _ (blkX hBn.out)).trans hBn.out)
      clear z0 z1 z2 z3 z4 z5 z6 z7 z8 lz n0 n1 n2 n3 n4 n5 n6 n7 n8 ln 
      clear bv kx; have kx := kx7; clear kx7
      clear hBz; have hBz := hBz_7; clear hBz_7
      clear hBn; have hBn := hBn_7; clear hBn_7
      go_wp2_with (fail)
      go_ret
      exact ⟨rfl, kx.out⟩
    · replace hD := Lib.hid hD
      go_wp2_with (fail)
      rw [← hW5]
      refine (equal_zero_any A4 c4 _ hES4.out).mono ?_
      rintro e W6 ⟨rfl, b5⟩
      have kx6 := Lib.hid (kx.out.trans (b5.mono kx.out.size))
      have hBz_6 := Lib.hid ((b5.block _ (blkX hBz.out)).trans hBz.out)
      have hBn_6 := Lib.hid ((b5.block _ (blkX hBn.out)).trans hBn.out)
      clear z0 z1 z2 z3 z4 z5 z6 z7 z8 lz 
      clear b5 kx; have kx := kx6; clear kx6
      clear hBz; have hBz := hBz_6; clear hBz_6
      clear hBn; have hBn := hBn_6; clear hBn_6
      go_wp2_with (fail)
      refine (works_any _ (hL.out.keep kx.out)).mono ?_
      rintro e W7 ⟨rfl, bv⟩
      have kx7 := Lib.hid (kx.out.trans (bv.mono kx.out.size))
      have hBz_7 := Lib.hid ((bv.block _ (blkX hBz.out)).trans hBz.out)
      have hBn_7 := Lib.hid ((bv.block _ (blkX hBn.out)).trans hBn.out)
      clear bv kx; have kx := kx7; clear kx7
      clear hBz; have hBz := hBz_7; clear hBz_7
      clear hBn; have hBn := hBn_7; clear hBn_7
      go_wp2_with (fail)
      go_ret
      exact ⟨rfl, kx.out⟩
end Go.Proofs.YtlinjanflenljaaGreatDoor
