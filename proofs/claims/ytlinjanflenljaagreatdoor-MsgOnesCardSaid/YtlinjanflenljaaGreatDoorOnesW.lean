/- Messages with the same bytes are equal: the walk. -/
import Derived.Test.YtlinjanflenljaaGreatDoorCutsW
namespace Go.Proofs.YtlinjanflenljaaGreatDoor
open Go.RowKit
set_option linter.unusedSimpArgs false
set_option linter.unusedVariables false
set_option linter.unusedSectionVars false
set_option maxRecDepth 10000
set_option maxHeartbeats 32000000 in
theorem ones_walk (m n : Mg) (A B : Option Addr) (c d : Nat) (w : World) (hL : Ldr w) (hI : IsM w m A c) (hJ : IsM w n B d) :
    Calls Tryz.prog 6 #[.agg #[.int .i64 m.k, .int .i64 m.fr, .int .i64 m.tt, .int .i64 m.ro, .int .i64 m.no, .int .i64 m.sl, .int .i64 m.nu, .string (sOf m.v), .slice A m.l.length c], .agg #[.int .i64 n.k, .int .i64 n.fr, .int .i64 n.tt, .int .i64 n.ro, .int .i64 n.no, .int .i64 n.sl, .int .i64 n.nu, .string (sOf n.v), .slice B n.l.length d]] w fun e w' => e = .returned (.bool true) ∧ Below w.heap.size w w' := by
  obtain ⟨U, hU⟩ : ∃ U, U = (w.alloc (.cells #[.int .i64 m.k, .int .i64 m.fr, .int .i64 m.tt, .int .i64 m.ro, .int .i64 m.no, .int .i64 m.sl, .int .i64 m.nu, .string (sOf m.v), .slice A m.l.length c] 28)).alloc (.cells #[.int .i64 n.k, .int .i64 n.fr, .int .i64 n.tt, .int .i64 n.ro, .int .i64 n.no, .int .i64 n.sl, .int .i64 n.nu, .string (sOf n.v), .slice B n.l.length d] 28) := ⟨_, rfl⟩
  have kx : Below w.heap.size w U := by rw [hU]; exact ((Below.refl _ w).alloc (Nat.le_refl _) _).alloc (by simp) _
  have hBz : U.heap[w.heap.size]? = some (.cells #[.int .i64 m.k, .int .i64 m.fr, .int .i64 m.tt, .int .i64 m.ro, .int .i64 m.no, .int .i64 m.sl, .int .i64 m.nu, .string (sOf m.v), .slice A m.l.length c] 28 (0, 0)) := by rw [hU]; exact (hpOld _ (by simp)).trans (hpNew w _)
  have hBx : U.heap[w.heap.size + 1]? = some (.cells #[.int .i64 n.k, .int .i64 n.fr, .int .i64 n.tt, .int .i64 n.ro, .int .i64 n.no, .int .i64 n.sl, .int .i64 n.nu, .string (sOf n.v), .slice B n.l.length d] 28 (0, 0)) := by rw [hU]; exact hpNewAt _ (by simp)
  replace hL := Lib.hid hL; replace hI := Lib.hid hI; replace hJ := Lib.hid hJ; replace hBz := Lib.hid hBz; replace hBx := Lib.hid hBx; replace kx := Lib.hid kx
  go_enter Tryz.func6, Tryz.ntmps6
  go_wp2_with (fail)
  rw [← hU]
  clear hU
  refine (short_any m A c U (hI.out.keep kx.out)).mono ?_
  rintro e W1 ⟨⟨b, rfl, -⟩, b1⟩
  have kx1 := Lib.hid (kx.out.trans (b1.mono kx.out.size))
  have hBz_1 := Lib.hid ((b1.block _ (blkX hBz.out)).trans hBz.out)
  have hBx_1 := Lib.hid ((b1.block _ (blkX hBx.out)).trans hBx.out)
  clear b1 kx; have kx := kx1; clear kx1
  clear hBz; have hBz := hBz_1; clear hBz_1
  clear hBx; have hBx := hBx_1; clear hBx_1
  have z0 : W1.cell? ⟨w.heap.size, 0, none⟩ = some (.int .i64 m.k) := blkC hBz.out 0
  have z1 : W1.cell? ⟨w.heap.size, 1, none⟩ = some (.int .i64 m.fr) := blkC hBz.out 1
  have z2 : W1.cell? ⟨w.heap.size, 2, none⟩ = some (.int .i64 m.tt) := blkC hBz.out 2
  have z3 : W1.cell? ⟨w.heap.size, 3, none⟩ = some (.int .i64 m.ro) := blkC hBz.out 3
  have z4 : W1.cell? ⟨w.heap.size, 4, none⟩ = some (.int .i64 m.no) := blkC hBz.out 4
  have z5 : W1.cell? ⟨w.heap.size, 5, none⟩ = some (.int .i64 m.sl) := blkC hBz.out 5
  have z6 : W1.cell? ⟨w.heap.size, 6, none⟩ = some (.int .i64 m.nu) := blkC hBz.out 6
  have z7 : W1.cell? ⟨w.heap.size, 7, none⟩ = some (.string (sOf m.v)) := blkC hBz.out 7
  have z8 : W1.cell? ⟨w.heap.size, 8, none⟩ = some (.slice A m.l.length c) := blkC hBz.out 8
  have lz := blkX hBz.out
  have x0 : W1.cell? ⟨w.heap.size + 1, 0, none⟩ = some (.int .i64 n.k) := blkC hBx.out 0
  have x1 : W1.cell? ⟨w.heap.size + 1, 1, none⟩ = some (.int .i64 n.fr) := blkC hBx.out 1
  have x2 : W1.cell? ⟨w.heap.size + 1, 2, none⟩ = some (.int .i64 n.tt) := blkC hBx.out 2
  have x3 : W1.cell? ⟨w.heap.size + 1, 3, none⟩ = some (.int .i64 n.ro) := blkC hBx.out 3
  have x4 : W1.cell? ⟨w.heap.size + 1, 4, none⟩ = some (.int .i64 n.no) := blkC hBx.out 4
  have x5 : W1.cell? ⟨w.heap.size + 1, 5, none⟩ = some (.int .i64 n.sl) := blkC hBx.out 5
  have x6 : W1.cell? ⟨w.heap.size + 1, 6, none⟩ = some (.int .i64 n.nu) := blkC hBx.out 6
  have x7 : W1.cell? ⟨w.heap.size + 1, 7, none⟩ = some (.string (sOf n.v)) := blkC hBx.out 7
  have x8 : W1.cell? ⟨w.heap.size + 1, 8, none⟩ = some (.slice B n.l.length d) := blkC hBx.out 8
  have lx := blkX hBx.out
  cases b
  · go_wp2_with (fail)
    refine (works_any _ (hL.out.keep kx.out)).mono ?_
    rintro e W2 ⟨rfl, bv⟩
    have kx2 := Lib.hid (kx.out.trans (bv.mono kx.out.size))
    have hBz_2 := Lib.hid ((bv.block _ (blkX hBz.out)).trans hBz.out)
    have hBx_2 := Lib.hid ((bv.block _ (blkX hBx.out)).trans hBx.out)
    clear z0 z1 z2 z3 z4 z5 z6 z7 z8 lz x0 x1 x2 x3 x4 x5 x6 x7 x8 lx 
    clear bv kx; have kx := kx2; clear kx2
    clear hBz; have hBz := hBz_2; clear hBz_2
    clear hBx; have hBx := hBx_2; clear hBx_2
    go_wp2_with (fail)
    go_ret
    exact ⟨rfl, kx.out⟩
  · go_wp2_with (fail)
    refine (short_any n B d _ (hJ.out.keep kx.out)).mono ?_
    rintro e W2 ⟨⟨b2, rfl, -⟩, b1⟩
    have kx2 := Lib.hid (kx.out.trans (b1.mono kx.out.size))
    have hBz_2 := Lib.hid ((b1.block _ (blkX hBz.out)).trans hBz.out)
    have hBx_2 := Lib.hid ((b1.block _ (blkX hBx.out)).trans hBx.out)
    clear z0 z1 z2 z3 z4 z5 z6 z7 z8 lz x0 x1 x2 x3 x4 x5 x6 x7 x8 lx 
    clear b1 kx; have kx := kx2; clear kx2
    clear hBz; have hBz := hBz_2; clear hBz_2
    clear hBx; have hBx := hBx_2; clear hBx_2
    have z0 : W2.cell? ⟨w.heap.size, 0, none⟩ = some (.int .i64 m.k) := blkC hBz.out 0
    have z1 : W2.cell? ⟨w.heap.size, 1, none⟩ = some (.int .i64 m.fr) := blkC hBz.out 1
    have z2 : W2.cell? ⟨w.heap.size, 2, none⟩ = some (.int .i64 m.tt) := blkC hBz.out 2
    have z3 : W2.cell? ⟨w.heap.size, 3, none⟩ = some (.int .i64 m.ro) := blkC hBz.out 3
    have z4 : W2.cell? ⟨w.heap.size, 4, none⟩ = some (.int .i64 m.no) := blkC hBz.out 4
    have z5 : W2.cell? ⟨w.heap.size, 5, none⟩ = some (.int .i64 m.sl) := blkC hBz.out 5
    have z6 : W2.cell? ⟨w.heap.size, 6, none⟩ = some (.int .i64 m.nu) := blkC hBz.out 6
    have z7 : W2.cell? ⟨w.heap.size, 7, none⟩ = some (.string (sOf m.v)) := blkC hBz.out 7
    have z8 : W2.cell? ⟨w.heap.size, 8, none⟩ = some (.slice A m.l.length c) := blkC hBz.out 8
    have lz := blkX hBz.out
    have x0 : W2.cell? ⟨w.heap.size + 1, 0, none⟩ = some (.int .i64 n.k) := blkC hBx.out 0
    have x1 : W2.cell? ⟨w.heap.size + 1, 1, none⟩ = some (.int .i64 n.fr) := blkC hBx.out 1
    have x2 : W2.cell? ⟨w.heap.size + 1, 2, none⟩ = some (.int .i64 n.tt) := blkC hBx.out 2
    have x3 : W2.cell? ⟨w.heap.size + 1, 3, none⟩ = some (.int .i64 n.ro) := blkC hBx.out 3
    have x4 : W2.cell? ⟨w.heap.size + 1, 4, none⟩ = some (.int .i64 n.no) := blkC hBx.out 4
    have x5 : W2.cell? ⟨w.heap.size + 1, 5, none⟩ = some (.int .i64 n.sl) := blkC hBx.out 5
    have x6 : W2.cell? ⟨w.heap.size + 1, 6, none⟩ = some (.int .i64 n.nu) := blkC hBx.out 6
    have x7 : W2.cell? ⟨w.heap.size + 1, 7, none⟩ = some (.string (sOf n.v)) := blkC hBx.out 7
    have x8 : W2.cell? ⟨w.heap.size + 1, 8, none⟩ = some (.slice B n.l.length d) := blkC hBx.out 8
    have lx := blkX hBx.out
    cases b2
    · go_wp2_with (fail)
      refine (works_any _ (hL.out.keep kx.out)).mono ?_
      rintro e W3 ⟨rfl, bv⟩
      have kx3 := Lib.hid (kx.out.trans (bv.mono kx.out.size))
      have hBz_3 := Lib.hid ((bv.block _ (blkX hBz.out)).trans hBz.out)
      have hBx_3 := Lib.hid ((bv.block _ (blkX hBx.out)).trans hBx.out)
      clear z0 z1 z2 z3 z4 z5 z6 z7 z8 lz x0 x1 x2 x3 x4 x5 x6 x7 x8 lx 
      clear bv kx; have kx := kx3; clear kx3
      clear hBz; have hBz := hBz_3; clear hBz_3
      clear hBx; have hBx := hBx_3; clear hBx_3
      go_wp2_with (fail)
      go_ret
      exact ⟨rfl, kx.out⟩
    · go_wp2_with (fail)
      refine (enc_any m A c _ (hL.out.keep kx.out) (SL.keep hI.out.es kx.out) (by have := hI.out.n; omega)).mono ?_
      rintro e W3 ⟨A2, c2, rfl, o2, b2⟩
      have kx3 := Lib.hid (kx.out.trans (b2.mono kx.out.size))
      have hBz_3 := Lib.hid ((b2.block _ (blkX hBz.out)).trans hBz.out)
      have hBx_3 := Lib.hid ((b2.block _ (blkX hBx.out)).trans hBx.out)
      have hr2 := Lib.hid (RB.of_own o2)
      clear o2
      clear z0 z1 z2 z3 z4 z5 z6 z7 z8 lz x0 x1 x2 x3 x4 x5 x6 x7 x8 lx 
      clear b2 kx; have kx := kx3; clear kx3
      clear hBz; have hBz := hBz_3; clear hBz_3
      clear hBx; have hBx := hBx_3; clear hBx_3
      obtain ⟨L2, hL2⟩ : ∃ L2, (encB m).length = L2 := ⟨_, rfl⟩
      rw [hL2] at hr2 ⊢
      replace hL2 := Lib.hid hL2
      have z0 : W3.cell? ⟨w.heap.size, 0, none⟩ = some (.int .i64 m.k) := blkC hBz.out 0
      have z1 : W3.cell? ⟨w.heap.size, 1, none⟩ = some (.int .i64 m.fr) := blkC hBz.out 1
      have z2 : W3.cell? ⟨w.heap.size, 2, none⟩ = some (.int .i64 m.tt) := blkC hBz.out 2
      have z3 : W3.cell? ⟨w.heap.size, 3, none⟩ = some (.int .i64 m.ro) := blkC hBz.out 3
      have z4 : W3.cell? ⟨w.heap.size, 4, none⟩ = some (.int .i64 m.no) := blkC hBz.out 4
      have z5 : W3.cell? ⟨w.heap.size, 5, none⟩ = some (.int .i64 m.sl) := blkC hBz.out 5
      have z6 : W3.cell? ⟨w.heap.size, 6, none⟩ = some (.int .i64 m.nu) := blkC hBz.out 6
      have z7 : W3.cell? ⟨w.heap.size, 7, none⟩ = some (.string (sOf m.v)) := blkC hBz.out 7
      have z8 : W3.cell? ⟨w.heap.size, 8, none⟩ = some (.slice A m.l.length c) := blkC hBz.out 8
      have lz := blkX hBz.out
      have x0 : W3.cell? ⟨w.heap.size + 1, 0, none⟩ = some (.int .i64 n.k) := blkC hBx.out 0
      have x1 : W3.cell? ⟨w.heap.size + 1, 1, none⟩ = some (.int .i64 n.fr) := blkC hBx.out 1
      have x2 : W3.cell? ⟨w.heap.size + 1, 2, none⟩ = some (.int .i64 n.tt) := blkC hBx.out 2
      have x3 : W3.cell? ⟨w.heap.size + 1, 3, none⟩ = some (.int .i64 n.ro) := blkC hBx.out 3
      have x4 : W3.cell? ⟨w.heap.size + 1, 4, none⟩ = some (.int .i64 n.no) := blkC hBx.out 4
      have x5 : W3.cell? ⟨w.heap.size + 1, 5, none⟩ = some (.int .i64 n.sl) := blkC hBx.out 5
      have x6 : W3.cell? ⟨w.heap.size + 1, 6, none⟩ = some (.int .i64 n.nu) := blkC hBx.out 6
      have x7 : W3.cell? ⟨w.heap.size + 1, 7, none⟩ = some (.string (sOf n.v)) := blkC hBx.out 7
      have x8 : W3.cell? ⟨w.heap.size + 1, 8, none⟩ = some (.slice B n.l.length d) := blkC hBx.out 8
      have lx := blkX hBx.out
      go_wp2_with (fail)
      refine (enc_any n B d _ (hL.out.keep kx.out) (SL.keep hJ.out.es kx.out) (by have := hJ.out.n; omega)).mono ?_
      rintro e W4 ⟨A3, c3, rfl, o3, b3⟩
      have kx4 := Lib.hid (kx.out.trans (b3.mono kx.out.size))
      have hBz_4 := Lib.hid ((b3.block _ (blkX hBz.out)).trans hBz.out)
      have hBx_4 := Lib.hid ((b3.block _ (blkX hBx.out)).trans hBx.out)
      have hr3 := Lib.hid (RB.of_own o3)
      have hr2' := Lib.hid (hr2.out.below b3)
      clear hr2; have hr2 := hr2'; clear hr2' o3
      clear z0 z1 z2 z3 z4 z5 z6 z7 z8 lz x0 x1 x2 x3 x4 x5 x6 x7 x8 lx 
      clear b3 kx; have kx := kx4; clear kx4
      clear hBz; have hBz := hBz_4; clear hBz_4
      clear hBx; have hBx := hBx_4; clear hBx_4
      obtain ⟨L3, hL3⟩ : ∃ L3, (encB n).length = L3 := ⟨_, rfl⟩
      rw [hL3] at hr3 ⊢
      replace hL3 := Lib.hid hL3
      have z0 : W4.cell? ⟨w.heap.size, 0, none⟩ = some (.int .i64 m.k) := blkC hBz.out 0
      have z1 : W4.cell? ⟨w.heap.size, 1, none⟩ = some (.int .i64 m.fr) := blkC hBz.out 1
      have z2 : W4.cell? ⟨w.heap.size, 2, none⟩ = some (.int .i64 m.tt) := blkC hBz.out 2
      have z3 : W4.cell? ⟨w.heap.size, 3, none⟩ = some (.int .i64 m.ro) := blkC hBz.out 3
      have z4 : W4.cell? ⟨w.heap.size, 4, none⟩ = some (.int .i64 m.no) := blkC hBz.out 4
      have z5 : W4.cell? ⟨w.heap.size, 5, none⟩ = some (.int .i64 m.sl) := blkC hBz.out 5
      have z6 : W4.cell? ⟨w.heap.size, 6, none⟩ = some (.int .i64 m.nu) := blkC hBz.out 6
      have z7 : W4.cell? ⟨w.heap.size, 7, none⟩ = some (.string (sOf m.v)) := blkC hBz.out 7
      have z8 : W4.cell? ⟨w.heap.size, 8, none⟩ = some (.slice A m.l.length c) := blkC hBz.out 8
      have lz := blkX hBz.out
      have x0 : W4.cell? ⟨w.heap.size + 1, 0, none⟩ = some (.int .i64 n.k) := blkC hBx.out 0
      have x1 : W4.cell? ⟨w.heap.size + 1, 1, none⟩ = some (.int .i64 n.fr) := blkC hBx.out 1
      have x2 : W4.cell? ⟨w.heap.size + 1, 2, none⟩ = some (.int .i64 n.tt) := blkC hBx.out 2
      have x3 : W4.cell? ⟨w.heap.size + 1, 3, none⟩ = some (.int .i64 n.ro) := blkC hBx.out 3
      have x4 : W4.cell? ⟨w.heap.size + 1, 4, none⟩ = some (.int .i64 n.no) := blkC hBx.out 4
      have x5 : W4.cell? ⟨w.heap.size + 1, 5, none⟩ = some (.int .i64 n.sl) := blkC hBx.out 5
      have x6 : W4.cell? ⟨w.heap.size + 1, 6, none⟩ = some (.int .i64 n.nu) := blkC hBx.out 6
      have x7 : W4.cell? ⟨w.heap.size + 1, 7, none⟩ = some (.string (sOf n.v)) := blkC hBx.out 7
      have x8 : W4.cell? ⟨w.heap.size + 1, 8, none⟩ = some (.slice B n.l.length d) := blkC hBx.out 8
      have lx := blkX hBx.out
      go_wp2_with (fail)
      refine (textm_any m A c _ (hL.out.keep kx.out) (SL.keep hI.out.es kx.out) (by have := hI.out.n; omega)).mono ?_
      rintro e W5 ⟨rfl, bk⟩
      have kx5 := Lib.hid (kx.out.trans (bk.mono kx.out.size))
      have hBz_5 := Lib.hid ((bk.block _ (blkX hBz.out)).trans hBz.out)
      have hBx_5 := Lib.hid ((bk.block _ (blkX hBx.out)).trans hBx.out)
      have hr2' := Lib.hid (hr2.out.below bk)
      clear hr2; have hr2 := hr2'; clear hr2'
      have hr3' := Lib.hid (hr3.out.below bk)
      clear hr3; have hr3 := hr3'; clear hr3'
      clear z0 z1 z2 z3 z4 z5 z6 z7 z8 lz x0 x1 x2 x3 x4 x5 x6 x7 x8 lx 
      clear bk kx; have kx := kx5; clear kx5
      clear hBz; have hBz := hBz_5; clear hBz_5
      clear hBx; have hBx := hBx_5; clear hBx_5
      obtain ⟨S, hS⟩ : ∃ S, sOf (txtM m) = S := ⟨_, rfl⟩
      rw [hS]
      replace hS := Lib.hid hS
      have z0 : W5.cell? ⟨w.heap.size, 0, none⟩ = some (.int .i64 m.k) := blkC hBz.out 0
      have z1 : W5.cell? ⟨w.heap.size, 1, none⟩ = some (.int .i64 m.fr) := blkC hBz.out 1
      have z2 : W5.cell? ⟨w.heap.size, 2, none⟩ = some (.int .i64 m.tt) := blkC hBz.out 2
      have z3 : W5.cell? ⟨w.heap.size, 3, none⟩ = some (.int .i64 m.ro) := blkC hBz.out 3
      have z4 : W5.cell? ⟨w.heap.size, 4, none⟩ = some (.int .i64 m.no) := blkC hBz.out 4
      have z5 : W5.cell? ⟨w.heap.size, 5, none⟩ = some (.int .i64 m.sl) := blkC hBz.out 5
      have z6 : W5.cell? ⟨w.heap.size, 6, none⟩ = some (.int .i64 m.nu) := blkC hBz.out 6
      have z7 : W5.cell? ⟨w.heap.size, 7, none⟩ = some (.string (sOf m.v)) := blkC hBz.out 7
      have z8 : W5.cell? ⟨w.heap.size, 8, none⟩ = some (.slice A m.l.length c) := blkC hBz.out 8
      have lz := blkX hBz.out
      have x0 : W5.cell? ⟨w.heap.size + 1, 0, none⟩ = some (.int .i64 n.k) := blkC hBx.out 0
      have x1 : W5.cell? ⟨w.heap.size + 1, 1, none⟩ = some (.int .i64 n.fr) := blkC hBx.out 1
      have x2 : W5.cell? ⟨w.heap.size + 1, 2, none⟩ = some (.int .i64 n.tt) := blkC hBx.out 2
      have x3 : W5.cell? ⟨w.heap.size + 1, 3, none⟩ = some (.int .i64 n.ro) := blkC hBx.out 3
      have x4 : W5.cell? ⟨w.heap.size + 1, 4, none⟩ = some (.int .i64 n.no) := blkC hBx.out 4
      have x5 : W5.cell? ⟨w.heap.size + 1, 5, none⟩ = some (.int .i64 n.sl) := blkC hBx.out 5
      have x6 : W5.cell? ⟨w.heap.size + 1, 6, none⟩ = some (.int .i64 n.nu) := blkC hBx.out 6
      have x7 : W5.cell? ⟨w.heap.size + 1, 7, none⟩ = some (.string (sOf n.v)) := blkC hBx.out 7
      have x8 : W5.cell? ⟨w.heap.size + 1, 8, none⟩ = some (.slice B n.l.length d) := blkC hBx.out 8
      have lx := blkX hBx.out
      go_wp2_with (fail)
      refine (textm_any n B d _ (hL.out.keep kx.out) (SL.keep hJ.out.es kx.out) (by have := hJ.out.n; omega)).mono ?_
      rintro e W6 ⟨rfl, bk⟩
      have kx6 := Lib.hid (kx.out.trans (bk.mono kx.out.size))
      have hBz_6 := Lib.hid ((bk.block _ (blkX hBz.out)).trans hBz.out)
      have hBx_6 := Lib.hid ((bk.block _ (blkX hBx.out)).trans hBx.out)
      have hr2' := Lib.hid (hr2.out.below bk)
      clear hr2; have hr2 := hr2'; clear hr2'
      have hr3' := Lib.hid (hr3.out.below bk)
      clear hr3; have hr3 := hr3'; clear hr3'
      clear z0 z1 z2 z3 z4 z5 z6 z7 z8 lz x0 x1 x2 x3 x4 x5 x6 x7 x8 lx 
      clear bk kx; have kx := kx6; clear kx6
      clear hBz; have hBz := hBz_6; clear hBz_6
      clear hBx; have hBx := hBx_6; clear hBx_6
      obtain ⟨T, hT⟩ : ∃ T, sOf (txtM n) = T := ⟨_, rfl⟩
      rw [hT]
      replace hT := Lib.hid hT
      have z0 : W6.cell? ⟨w.heap.size, 0, none⟩ = some (.int .i64 m.k) := blkC hBz.out 0
      have z1 : W6.cell? ⟨w.heap.size, 1, none⟩ = some (.int .i64 m.fr) := blkC hBz.out 1
      have z2 : W6.cell? ⟨w.heap.size, 2, none⟩ = some (.int .i64 m.tt) := blkC hBz.out 2
      have z3 : W6.cell? ⟨w.heap.size, 3, none⟩ = some (.int .i64 m.ro) := blkC hBz.out 3
      have z4 : W6.cell? ⟨w.heap.size, 4, none⟩ = some (.int .i64 m.no) := blkC hBz.out 4
      have z5 : W6.cell? ⟨w.heap.size, 5, none⟩ = some (.int .i64 m.sl) := blkC hBz.out 5
      have z6 : W6.cell? ⟨w.heap.size, 6, none⟩ = some (.int .i64 m.nu) := blkC hBz.out 6
      have z7 : W6.cell? ⟨w.heap.size, 7, none⟩ = some (.string (sOf m.v)) := blkC hBz.out 7
      have z8 : W6.cell? ⟨w.heap.size, 8, none⟩ = some (.slice A m.l.length c) := blkC hBz.out 8
      have lz := blkX hBz.out
      have x0 : W6.cell? ⟨w.heap.size + 1, 0, none⟩ = some (.int .i64 n.k) := blkC hBx.out 0
      have x1 : W6.cell? ⟨w.heap.size + 1, 1, none⟩ = some (.int .i64 n.fr) := blkC hBx.out 1
      have x2 : W6.cell? ⟨w.heap.size + 1, 2, none⟩ = some (.int .i64 n.tt) := blkC hBx.out 2
      have x3 : W6.cell? ⟨w.heap.size + 1, 3, none⟩ = some (.int .i64 n.ro) := blkC hBx.out 3
      have x4 : W6.cell? ⟨w.heap.size + 1, 4, none⟩ = some (.int .i64 n.no) := blkC hBx.out 4
      have x5 : W6.cell? ⟨w.heap.size + 1, 5, none⟩ = some (.int .i64 n.sl) := blkC hBx.out 5
      have x6 : W6.cell? ⟨w.heap.size + 1, 6, none⟩ = some (.int .i64 n.nu) := blkC hBx.out 6
      have x7 : W6.cell? ⟨w.heap.size + 1, 7, none⟩ = some (.string (sOf n.v)) := blkC hBx.out 7
      have x8 : W6.cell? ⟨w.heap.size + 1, 8, none⟩ = some (.slice B n.l.length d) := blkC hBx.out 8
      have lx := blkX hBx.out
      generalize hez : encE m = ez at *
      generalize hfz : encE n = fz at *
      replace hez := Lib.hid hez; replace hfz := Lib.hid hfz
      by_cases h0 : ez = 0
      rotate_left
      · have h1 : (ez == 0) = false := by simp [h0]
        go_wp2_with (fail)
        refine (works_any _ (hL.out.keep kx.out)).mono ?_
        rintro e W7 ⟨rfl, bv⟩
        have kx7 := Lib.hid (kx.out.trans (bv.mono kx.out.size))
        have hBz_7 := Lib.hid ((bv.block _ (blkX hBz.out)).trans hBz.out)
        have hBx_7 := Lib.hid ((bv.block _ (blkX hBx.out)).trans hBx.out)
        clear z0 z1 z2 z3 z4 z5 z6 z7 z8 lz x0 x1 x2 x3 x4 x5 x6 x7 x8 lx 
        clear bv kx; have kx := kx7; clear kx7
        clear hBz; have hBz := hBz_7; clear hBz_7
        clear hBx; have hBx := hBx_7; clear hBx_7
        go_wp2_with (fail)
        go_ret
        exact ⟨rfl, kx.out⟩
      by_cases h2 : fz = 0
      rotate_left
      · have h1 : (fz == 0) = false := by simp [h2]
        subst h0
        go_wp2_with (fail)
        refine (works_any _ (hL.out.keep kx.out)).mono ?_
        rintro e W7 ⟨rfl, bv⟩
        have kx7 := Lib.hid (kx.out.trans (bv.mono kx.out.size))
        have hBz_7 := Lib.hid ((bv.block _ (blkX hBz.out)).trans hBz.out)
        have hBx_7 := Lib.hid ((bv.block _ (blkX hBx.out)).trans hBx.out)
        clear z0 z1 z2 z3 z4 z5 z6 z7 z8 lz x0 x1 x2 x3 x4 x5 x6 x7 x8 lx 
        clear bv kx; have kx := kx7; clear kx7
        clear hBz; have hBz := hBz_7; clear hBz_7
        clear hBx; have hBx := hBx_7; clear hBx_7
        go_wp2_with (fail)
        go_ret
        exact ⟨rfl, kx.out⟩
      subst h0 h2
      have hEm : encB m = bytesM m := by unfold encB; rw [if_pos hez.out]
      have hEn : encB n = bytesM n := by unfold encB; rw [if_pos hfz.out]
      have hTm : txtM m = textM m := by unfold txtM; rw [if_pos hez.out]
      have hTn : txtM n = textM n := by unfold txtM; rw [if_pos hfz.out]
      obtain ⟨X, hX⟩ : ∃ X : ByteArray, (⟨(encB m).toArray⟩ : ByteArray) = X := ⟨_, rfl⟩
      obtain ⟨Y, hY⟩ : ∃ Y : ByteArray, (⟨(encB n).toArray⟩ : ByteArray) = Y := ⟨_, rfl⟩
      have hXY : X = Y ↔ m = n := by
        constructor
        · intro h
          rw [← hX, ← hY, hEm, hEn] at h
          exact bytes_inj hez.out hfz.out (sOf_inj.1 h)
        · rintro rfl; rw [← hX, ← hY]
      have hST : S = T ↔ textM m = textM n := by
        rw [← hS.out, ← hT.out, hTm, hTn]; exact sOf_inj
      have hinj := text_inj hez.out hfz.out
      replace hX := Lib.hid hX; replace hY := Lib.hid hY; replace hEm := Lib.hid hEm; replace hEn := Lib.hid hEn; replace hTm := Lib.hid hTm; replace hTn := Lib.hid hTn; replace hXY := Lib.hid hXY; replace hST := Lib.hid hST; replace hinj := Lib.hid hinj
      go_wp2_with (fail)
      refine (equal_m m n A B c d _ (SL.keep hI.out.es kx.out) (SL.keep hJ.out.es kx.out) (by have := hI.out.n; omega) (by have := hJ.out.n; omega)).mono ?_
      rintro e W7 ⟨rfl, bk⟩
      have kx7 := Lib.hid (kx.out.trans (bk.mono kx.out.size))
      have hBz_7 := Lib.hid ((bk.block _ (blkX hBz.out)).trans hBz.out)
      have hBx_7 := Lib.hid ((bk.block _ (blkX hBx.out)).trans hBx.out)
      have hr2' := Lib.hid (hr2.out.below bk)
      clear hr2; have hr2 := hr2'; clear hr2'
      have hr3' := Lib.hid (hr3.out.below bk)
      clear hr3; have hr3 := hr3'; clear hr3'
      clear z0 z1 z2 z3 z4 z5 z6 z7 z8 lz x0 x1 x2 x3 x4 x5 x6 x7 x8 lx 
      clear bk kx; have kx := kx7; clear kx7
      clear hBz; have hBz := hBz_7; clear hBz_7
      clear hBx; have hBx := hBx_7; clear hBx_7
      have hq1 := hr2.out.str c2
      have hq2 := hr3.out.str c3
      rw [hX.out] at hq1; rw [hY.out] at hq2
      have z0 : W7.cell? ⟨w.heap.size, 0, none⟩ = some (.int .i64 m.k) := blkC hBz.out 0
      have z1 : W7.cell? ⟨w.heap.size, 1, none⟩ = some (.int .i64 m.fr) := blkC hBz.out 1
      have z2 : W7.cell? ⟨w.heap.size, 2, none⟩ = some (.int .i64 m.tt) := blkC hBz.out 2
      have z3 : W7.cell? ⟨w.heap.size, 3, none⟩ = some (.int .i64 m.ro) := blkC hBz.out 3
      have z4 : W7.cell? ⟨w.heap.size, 4, none⟩ = some (.int .i64 m.no) := blkC hBz.out 4
      have z5 : W7.cell? ⟨w.heap.size, 5, none⟩ = some (.int .i64 m.sl) := blkC hBz.out 5
      have z6 : W7.cell? ⟨w.heap.size, 6, none⟩ = some (.int .i64 m.nu) := blkC hBz.out 6
      have z7 : W7.cell? ⟨w.heap.size, 7, none⟩ = some (.string (sOf m.v)) := blkC hBz.out 7
      have z8 : W7.cell? ⟨w.heap.size, 8, none⟩ = some (.slice A m.l.length c) := blkC hBz.out 8
      have lz := blkX hBz.out
      have x0 : W7.cell? ⟨w.heap.size + 1, 0, none⟩ = some (.int .i64 n.k) := blkC hBx.out 0
      have x1 : W7.cell? ⟨w.heap.size + 1, 1, none⟩ = some (.int .i64 n.fr) := blkC hBx.out 1
      have x2 : W7.cell? ⟨w.heap.size + 1, 2, none⟩ = some (.int .i64 n.tt) := blkC hBx.out 2
      have x3 : W7.cell? ⟨w.heap.size + 1, 3, none⟩ = some (.int .i64 n.ro) := blkC hBx.out 3
      have x4 : W7.cell? ⟨w.heap.size + 1, 4, none⟩ = some (.int .i64 n.no) := blkC hBx.out 4
      have x5 : W7.cell? ⟨w.heap.size + 1, 5, none⟩ = some (.int .i64 n.sl) := blkC hBx.out 5
      have x6 : W7.cell? ⟨w.heap.size + 1, 6, none⟩ = some (.int .i64 n.nu) := blkC hBx.out 6
      have x7 : W7.cell? ⟨w.heap.size + 1, 7, none⟩ = some (.string (sOf n.v)) := blkC hBx.out 7
      have x8 : W7.cell? ⟨w.heap.size + 1, 8, none⟩ = some (.slice B n.l.length d) := blkC hBx.out 8
      have lx := blkX hBx.out
      by_cases hmn : m = n
      · subst hmn
        rw [show decide (m = m) = true from decide_eq_true rfl]
        obtain rfl : X = Y := hXY.out.2 rfl
        obtain rfl : S = T := hST.out.2 rfl
        by_cases h_mv : m.v = []
        rotate_left
        · have evm : (sOf m.v).toList.isEmpty = false := by rw [sOf_empty]; simp [h_mv]
          replace h_mv := Lib.hid h_mv
          go_wp2_with (fail)
          refine (works_any _ (hL.out.keep kx.out)).mono ?_
          rintro e W8 ⟨rfl, bv⟩
          have kx8 := Lib.hid (kx.out.trans (bv.mono kx.out.size))
          have hBz_8 := Lib.hid ((bv.block _ (blkX hBz.out)).trans hBz.out)
          have hBx_8 := Lib.hid ((bv.block _ (blkX hBx.out)).trans hBx.out)
          clear z0 z1 z2 z3 z4 z5 z6 z7 z8 lz x0 x1 x2 x3 x4 x5 x6 x7 x8 lx 
          clear bv kx; have kx := kx8; clear kx8
          clear hBz; have hBz := hBz_8; clear hBz_8
          clear hBx; have hBx := hBx_8; clear hBx_8
          go_wp2_with (fail)
          go_ret
          exact ⟨rfl, kx.out⟩
        have evm : (sOf m.v).toList.isEmpty = true := by rw [sOf_empty]; simp [h_mv]
        replace h_mv := Lib.hid h_mv
        by_cases h_ml : m.l = []
        rotate_left
        · have elm : ((m.l.length : Int) == 0) = false := by simp [h_ml]
          replace h_ml := Lib.hid h_ml
          go_wp2_with (fail)
          refine (works_any _ (hL.out.keep kx.out)).mono ?_
          rintro e W8 ⟨rfl, bv⟩
          have kx8 := Lib.hid (kx.out.trans (bv.mono kx.out.size))
          have hBz_8 := Lib.hid ((bv.block _ (blkX hBz.out)).trans hBz.out)
          have hBx_8 := Lib.hid ((bv.block _ (blkX hBx.out)).trans hBx.out)
          clear z0 z1 z2 z3 z4 z5 z6 z7 z8 lz x0 x1 x2 x3 x4 x5 x6 x7 x8 lx 
          clear bv kx; have kx := kx8; clear kx8
          clear hBz; have hBz := hBz_8; clear hBz_8
          clear hBx; have hBx := hBx_8; clear hBx_8
          go_wp2_with (fail)
          go_ret
          exact ⟨rfl, kx.out⟩
        have elm : ((m.l.length : Int) == 0) = true := by simp [h_ml]
        replace h_ml := Lib.hid h_ml
        go_wp2_with (fail)
        refine (works_any _ (hL.out.keep kx.out)).mono ?_
        rintro e W8 ⟨rfl, bv⟩
        have kx8 := Lib.hid (kx.out.trans (bv.mono kx.out.size))
        have hBz_8 := Lib.hid ((bv.block _ (blkX hBz.out)).trans hBz.out)
        have hBx_8 := Lib.hid ((bv.block _ (blkX hBx.out)).trans hBx.out)
        clear z0 z1 z2 z3 z4 z5 z6 z7 z8 lz x0 x1 x2 x3 x4 x5 x6 x7 x8 lx 
        clear bv kx; have kx := kx8; clear kx8
        clear hBz; have hBz := hBz_8; clear hBz_8
        clear hBx; have hBx := hBx_8; clear hBx_8
        go_wp2_with (fail)
        go_ret
        exact ⟨rfl, kx.out⟩
      · rw [show decide (m = n) = false from decide_eq_false hmn]
        have hxy1 : ¬ X = Y := fun e => hmn (hXY.out.1 e)
        have hxy2 : ¬ X.toList = Y.toList := fun e => hxy1 (by rw [ByteArray.toList_eq, ByteArray.toList_eq] at e; exact ByteArray.ext (Array.ext' e))
        have hxy3 : (X.toList == Y.toList) = false := beq_false_of_ne hxy2
        clear hxy1 hxy2
        replace hmn := Lib.hid hmn
        by_cases h_mv : m.v = []
        rotate_left
        · have evm : (sOf m.v).toList.isEmpty = false := by rw [sOf_empty]; simp [h_mv]
          replace h_mv := Lib.hid h_mv
          go_wp2_with (fail)
          refine (works_any _ (hL.out.keep kx.out)).mono ?_
          rintro e W8 ⟨rfl, bv⟩
          have kx8 := Lib.hid (kx.out.trans (bv.mono kx.out.size))
          have hBz_8 := Lib.hid ((bv.block _ (blkX hBz.out)).trans hBz.out)
          have hBx_8 := Lib.hid ((bv.block _ (blkX hBx.out)).trans hBx.out)
          clear z0 z1 z2 z3 z4 z5 z6 z7 z8 lz x0 x1 x2 x3 x4 x5 x6 x7 x8 lx 
          clear bv kx; have kx := kx8; clear kx8
          clear hBz; have hBz := hBz_8; clear hBz_8
          clear hBx; have hBx := hBx_8; clear hBx_8
          go_wp2_with (fail)
          go_ret
          exact ⟨rfl, kx.out⟩
        have evm : (sOf m.v).toList.isEmpty = true := by rw [sOf_empty]; simp [h_mv]
        replace h_mv := Lib.hid h_mv
        by_cases h_nv : n.v = []
        rotate_left
        · have evn : (sOf n.v).toList.isEmpty = false := by rw [sOf_empty]; simp [h_nv]
          replace h_nv := Lib.hid h_nv
          go_wp2_with (fail)
          refine (works_any _ (hL.out.keep kx.out)).mono ?_
          rintro e W8 ⟨rfl, bv⟩
          have kx8 := Lib.hid (kx.out.trans (bv.mono kx.out.size))
          have hBz_8 := Lib.hid ((bv.block _ (blkX hBz.out)).trans hBz.out)
          have hBx_8 := Lib.hid ((bv.block _ (blkX hBx.out)).trans hBx.out)
          clear z0 z1 z2 z3 z4 z5 z6 z7 z8 lz x0 x1 x2 x3 x4 x5 x6 x7 x8 lx 
          clear bv kx; have kx := kx8; clear kx8
          clear hBz; have hBz := hBz_8; clear hBz_8
          clear hBx; have hBx := hBx_8; clear hBx_8
          go_wp2_with (fail)
          go_ret
          exact ⟨rfl, kx.out⟩
        have evn : (sOf n.v).toList.isEmpty = true := by rw [sOf_empty]; simp [h_nv]
        replace h_nv := Lib.hid h_nv
        by_cases h_ml : m.l = []
        rotate_left
        · have elm : ((m.l.length : Int) == 0) = false := by simp [h_ml]
          replace h_ml := Lib.hid h_ml
          go_wp2_with (fail)
          refine (works_any _ (hL.out.keep kx.out)).mono ?_
          rintro e W8 ⟨rfl, bv⟩
          have kx8 := Lib.hid (kx.out.trans (bv.mono kx.out.size))
          have hBz_8 := Lib.hid ((bv.block _ (blkX hBz.out)).trans hBz.out)
          have hBx_8 := Lib.hid ((bv.block _ (blkX hBx.out)).trans hBx.out)
          clear z0 z1 z2 z3 z4 z5 z6 z7 z8 lz x0 x1 x2 x3 x4 x5 x6 x7 x8 lx 
          clear bv kx; have kx := kx8; clear kx8
          clear hBz; have hBz := hBz_8; clear hBz_8
          clear hBx; have hBx := hBx_8; clear hBx_8
          go_wp2_with (fail)
          go_ret
          exact ⟨rfl, kx.out⟩
        have elm : ((m.l.length : Int) == 0) = true := by simp [h_ml]
        replace h_ml := Lib.hid h_ml
        by_cases h_nl : n.l = []
        rotate_left
        · have eln : ((n.l.length : Int) == 0) = false := by simp [h_nl]
          replace h_nl := Lib.hid h_nl
          go_wp2_with (fail)
          refine (works_any _ (hL.out.keep kx.out)).mono ?_
          rintro e W8 ⟨rfl, bv⟩
          have kx8 := Lib.hid (kx.out.trans (bv.mono kx.out.size))
          have hBz_8 := Lib.hid ((bv.block _ (blkX hBz.out)).trans hBz.out)
          have hBx_8 := Lib.hid ((bv.block _ (blkX hBx.out)).trans hBx.out)
          clear z0 z1 z2 z3 z4 z5 z6 z7 z8 lz x0 x1 x2 x3 x4 x5 x6 x7 x8 lx 
          clear bv kx; have kx := kx8; clear kx8
          clear hBz; have hBz := hBz_8; clear hBz_8
          clear hBx; have hBx := hBx_8; clear hBx_8
          go_wp2_with (fail)
          go_ret
          exact ⟨rfl, kx.out⟩
        have eln : ((n.l.length : Int) == 0) = true := by simp [h_nl]
        replace h_nl := Lib.hid h_nl
        have hne2 : ¬ S = T := fun e => hmn.out (hinj.out h_mv.out h_ml.out h_nv.out h_nl.out (hST.out.1 e))
        have hne3 : ¬ S.toList = T.toList := fun e => hne2 (by rw [ByteArray.toList_eq, ByteArray.toList_eq] at e; exact ByteArray.ext (Array.ext' e))
        have hne4 : (S.toList == T.toList) = false := beq_false_of_ne hne3
        clear hne2 hne3
        go_wp2_with (fail)
        refine (works_any _ (hL.out.keep kx.out)).mono ?_
        rintro e W8 ⟨rfl, bv⟩
        have kx8 := Lib.hid (kx.out.trans (bv.mono kx.out.size))
        have hBz_8 := Lib.hid ((bv.block _ (blkX hBz.out)).trans hBz.out)
        have hBx_8 := Lib.hid ((bv.block _ (blkX hBx.out)).trans hBx.out)
        clear z0 z1 z2 z3 z4 z5 z6 z7 z8 lz x0 x1 x2 x3 x4 x5 x6 x7 x8 lx 
        clear bv kx; have kx := kx8; clear kx8
        clear hBz; have hBz := hBz_8; clear hBz_8
        clear hBx; have hBx := hBx_8; clear hBx_8
        go_wp2_with (fail)
        go_ret
        exact ⟨rfl, kx.out⟩
end Go.Proofs.YtlinjanflenljaaGreatDoor
