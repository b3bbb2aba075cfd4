/- The bytes and texts of messages: the walk. -/
import Derived.Test.YtlinjanflenljaaGreatDoorCutsW
import Derived.Test.YtlinjanflenljaaGreatDoorREqM
import Derived.Test.YtlinjanflenljaaGreatDoorRTxt
import Derived.Deep.RegionHeld3
namespace Go.Proofs.YtlinjanflenljaaGreatDoor
open Go.RowKit
set_option linter.unusedSimpArgs false
set_option linter.unusedVariables false
set_option linter.unusedSectionVars false
set_option maxRecDepth 10000
set_option maxHeartbeats 64000000 in
theorem writes_walk (m : Mg) (A : Option Addr) (c : Nat) (w : World) (hL : Ldr w) (hI : IsM w m A c) :
    Calls Tryz.prog 8 #[.agg #[.int .i64 m.k, .int .i64 m.fr, .int .i64 m.tt, .int .i64 m.ro, .int .i64 m.no, .int .i64 m.sl, .int .i64 m.nu, .string (sOf m.v), .slice A m.l.length c]] w fun e w' => e = .returned (.bool true) ∧ Below w.heap.size w w' := by
  obtain ⟨U, hU⟩ : ∃ U, U = w.alloc (.cells #[.int .i64 m.k, .int .i64 m.fr, .int .i64 m.tt, .int .i64 m.ro, .int .i64 m.no, .int .i64 m.sl, .int .i64 m.nu, .string (sOf m.v), .slice A m.l.length c] 28) := ⟨_, rfl⟩
  have kx : Below w.heap.size w U := by rw [hU]; exact (Below.refl _ w).alloc (Nat.le_refl _) _
  have hBz : U.heap[w.heap.size]? = some (.cells #[.int .i64 m.k, .int .i64 m.fr, .int .i64 m.tt, .int .i64 m.ro, .int .i64 m.no, .int .i64 m.sl, .int .i64 m.nu, .string (sOf m.v), .slice A m.l.length c] 28 (0, 0)) := by rw [hU]; exact hpNew w _
  replace hL := Lib.hid hL; replace hI := Lib.hid hI; replace hBz := Lib.hid hBz; replace kx := Lib.hid kx
  go_enter Tryz.func8, Tryz.ntmps8
  go_wp2_with (fail)
  rw [← hU]
  clear hU
  refine (short_any m A c U (hI.out.keep kx.out)).mono ?_
  rintro e W1 ⟨⟨b, rfl, -⟩, b1⟩
  have kx1 := Lib.hid (kx.out.trans (b1.mono kx.out.size))
  have hBz_1 := Lib.hid ((b1.block _ (blkX hBz.out)).trans hBz.out)
  clear b1 kx; have kx := kx1; clear kx1
  clear hBz; have hBz := hBz_1; clear hBz_1
  have z0 : W1.cell? ⟨w.heap.size, 0, none⟩ = some (.int .i64 m.k) := blkC hBz.out 0
  have z1 : W1.cell? ⟨w.heap.size, 1, none⟩ = some (.int .i64 m.fr) := blkC hBz.out 1
  have z2 : W1.cell? ⟨w.heap.size, 2, none⟩ = some (.int .i64 m.tt) := blkC hBz.out 2
  have z3 : W1.cell? ⟨w.heap.size, 3, none⟩ = some (.int .i64 m.ro) := blkC hBz.out 3
  have z4 : W1.cell? ⟨w.heap.size, 4, none⟩ = some (.int .i64 m.no) := blkC hBz.out 4
  have z5 : W1.cell? ⟨w.heap.size, 5, none⟩ = some (.int .i64 m.sl) := blkC hBz.out 5
  have z6 : W1.cell? ⟨w.heap.size, 6, none⟩ = some (.int .i64 m.nu) := blkC hBz.out 6
  have z7 : W1.cell? ⟨w.heap.size, 7, none⟩ = some (.string (sOf m.v)) := blkC hBz.out 7
  have z8 : W1.cell? ⟨w.heap.size, 8, none⟩ = some (.slice A m.l.length c) := blkC hBz.out 8
  have lz := blkX hBz.out
  cases b
  · go_wp2_with (fail)
    refine (works_any _ (hL.out.keep kx.out)).mono ?_
    rintro e W2 ⟨rfl, bv⟩
    have kx2 := Lib.hid (kx.out.trans (bv.mono kx.out.size))
    have hBz_2 := Lib.hid ((bv.block _ (blkX hBz.out)).trans hBz.out)
    clear z0 z1 z2 z3 z4 z5 z6 z7 z8 lz 
    clear bv kx; have kx := kx2; clear kx2
    clear hBz; have hBz := hBz_2; clear hBz_2
    go_wp2_with (fail)
    go_ret
    exact ⟨rfl, kx.out⟩
  · go_wp2_with (fail)
    refine (rcopy_any m A c _ (hI.out.keep kx.out)).mono ?_
    rintro e W2 ⟨A5, c5, rfl, ho5, b5⟩
    have kx2 := Lib.hid (kx.out.trans (b5.mono kx.out.size))
    have hBz_2 := Lib.hid ((b5.block _ (blkX hBz.out)).trans hBz.out)
    replace ho5 := Lib.hid (ho5.mono (base' := w.heap.size) kx.out.size)
    clear z0 z1 z2 z3 z4 z5 z6 z7 z8 lz 
    clear b5 kx; have kx := kx2; clear kx2
    clear hBz; have hBz := hBz_2; clear hBz_2
    have z0 : W2.cell? ⟨w.heap.size, 0, none⟩ = some (.int .i64 m.k) := blkC hBz.out 0
    have z1 : W2.cell? ⟨w.heap.size, 1, none⟩ = some (.int .i64 m.fr) := blkC hBz.out 1
    have z2 : W2.cell? ⟨w.heap.size, 2, none⟩ = some (.int .i64 m.tt) := blkC hBz.out 2
    have z3 : W2.cell? ⟨w.heap.size, 3, none⟩ = some (.int .i64 m.ro) := blkC hBz.out 3
    have z4 : W2.cell? ⟨w.heap.size, 4, none⟩ = some (.int .i64 m.no) := blkC hBz.out 4
    have z5 : W2.cell? ⟨w.heap.size, 5, none⟩ = some (.int .i64 m.sl) := blkC hBz.out 5
    have z6 : W2.cell? ⟨w.heap.size, 6, none⟩ = some (.int .i64 m.nu) := blkC hBz.out 6
    have z7 : W2.cell? ⟨w.heap.size, 7, none⟩ = some (.string (sOf m.v)) := blkC hBz.out 7
    have z8 : W2.cell? ⟨w.heap.size, 8, none⟩ = some (.slice A m.l.length c) := blkC hBz.out 8
    have lz := blkX hBz.out
    obtain ⟨W3, hW3⟩ : ∃ W', W' = W2.alloc (.cells #[.int .i64 m.k, .int .i64 m.fr, .int .i64 m.tt, .int .i64 m.ro, .int .i64 m.no, .int .i64 m.sl, .int .i64 m.nu, .string (sOf m.v), .slice A5 m.l.length c5] 28) := ⟨_, rfl⟩
    have bb : Below W2.heap.size W2 W3 := by rw [hW3]; exact (Below.refl _ W2).alloc (Nat.le_refl _) _
    have hBgy := Lib.hid (show W3.heap[W2.heap.size]? = some (.cells #[.int .i64 m.k, .int .i64 m.fr, .int .i64 m.tt, .int .i64 m.ro, .int .i64 m.no, .int .i64 m.sl, .int .i64 m.nu, .string (sOf m.v), .slice A5 m.l.length c5] 28 (0, 0)) from by rw [hW3]; exact hpNew W2 _)
    have kx3 := Lib.hid (kx.out.trans (bb.mono kx.out.size))
    have hBz_3 := Lib.hid ((bb.block _ (blkX hBz.out)).trans hBz.out)
    have ho2 := Lib.hid (own_keep2 ho5.out bb)
    clear ho5; have ho5 := ho2; clear ho2
    clear bb kx; have kx := kx3; clear kx3
    clear hBz; have hBz := hBz_3; clear hBz_3
    have z0 : W3.cell? ⟨w.heap.size, 0, none⟩ = some (.int .i64 m.k) := blkC hBz.out 0
    have z1 : W3.cell? ⟨w.heap.size, 1, none⟩ = some (.int .i64 m.fr) := blkC hBz.out 1
    have z2 : W3.cell? ⟨w.heap.size, 2, none⟩ = some (.int .i64 m.tt) := blkC hBz.out 2
    have z3 : W3.cell? ⟨w.heap.size, 3, none⟩ = some (.int .i64 m.ro) := blkC hBz.out 3
    have z4 : W3.cell? ⟨w.heap.size, 4, none⟩ = some (.int .i64 m.no) := blkC hBz.out 4
    have z5 : W3.cell? ⟨w.heap.size, 5, none⟩ = some (.int .i64 m.sl) := blkC hBz.out 5
    have z6 : W3.cell? ⟨w.heap.size, 6, none⟩ = some (.int .i64 m.nu) := blkC hBz.out 6
    have z7 : W3.cell? ⟨w.heap.size, 7, none⟩ = some (.string (sOf m.v)) := blkC hBz.out 7
    have z8 : W3.cell? ⟨w.heap.size, 8, none⟩ = some (.slice A m.l.length c) := blkC hBz.out 8
    have lz := blkX hBz.out
    have gy0 : W3.cell? ⟨W2.heap.size, 0, none⟩ = some (.int .i64 m.k) := blkC hBgy.out 0
    have gy1 : W3.cell? ⟨W2.heap.size, 1, none⟩ = some (.int .i64 m.fr) := blkC hBgy.out 1
    have gy2 : W3.cell? ⟨W2.heap.size, 2, none⟩ = some (.int .i64 m.tt) := blkC hBgy.out 2
    have gy3 : W3.cell? ⟨W2.heap.size, 3, none⟩ = some (.int .i64 m.ro) := blkC hBgy.out 3
    have gy4 : W3.cell? ⟨W2.heap.size, 4, none⟩ = some (.int .i64 m.no) := blkC hBgy.out 4
    have gy5 : W3.cell? ⟨W2.heap.size, 5, none⟩ = some (.int .i64 m.sl) := blkC hBgy.out 5
    have gy6 : W3.cell? ⟨W2.heap.size, 6, none⟩ = some (.int .i64 m.nu) := blkC hBgy.out 6
    have gy7 : W3.cell? ⟨W2.heap.size, 7, none⟩ = some (.string (sOf m.v)) := blkC hBgy.out 7
    have gy8 : W3.cell? ⟨W2.heap.size, 8, none⟩ = some (.slice A5 m.l.length c5) := blkC hBgy.out 8
    have lgy := blkX hBgy.out
    go_wp2_with (fail)
    rw [← hW3]
    replace hW3 := Lib.hid hW3
    refine (enc_any m A c _ (hL.out.keep kx.out) (SL.keep hI.out.es kx.out) (by have := hI.out.n; omega)).mono ?_
    rintro e W4 ⟨A6, c6, rfl, j6⟩
    have bq := j6.2
    have hr6 := Lib.hid (RB.of_own j6.1)
    have kx4 := Lib.hid (kx.out.trans (bq.mono kx.out.size))
    have hBz_4 := Lib.hid ((bq.block _ (blkX hBz.out)).trans hBz.out)
    have hBgy_4 := Lib.hid ((bq.block _ (blkX hBgy.out)).trans hBgy.out)
    have ho2 := Lib.hid (own_keep2 ho5.out bq)
    clear ho5; have ho5 := ho2; clear ho2
    clear z0 z1 z2 z3 z4 z5 z6 z7 z8 lz gy0 gy1 gy2 gy3 gy4 gy5 gy6 gy7 gy8 lgy 
    clear j6 bq kx; have kx := kx4; clear kx4
    clear hBz; have hBz := hBz_4; clear hBz_4
    clear hBgy; have hBgy := hBgy_4; clear hBgy_4
    have z0 : W4.cell? ⟨w.heap.size, 0, none⟩ = some (.int .i64 m.k) := blkC hBz.out 0
    have z1 : W4.cell? ⟨w.heap.size, 1, none⟩ = some (.int .i64 m.fr) := blkC hBz.out 1
    have z2 : W4.cell? ⟨w.heap.size, 2, none⟩ = some (.int .i64 m.tt) := blkC hBz.out 2
    have z3 : W4.cell? ⟨w.heap.size, 3, none⟩ = some (.int .i64 m.ro) := blkC hBz.out 3
    have z4 : W4.cell? ⟨w.heap.size, 4, none⟩ = some (.int .i64 m.no) := blkC hBz.out 4
    have z5 : W4.cell? ⟨w.heap.size, 5, none⟩ = some (.int .i64 m.sl) := blkC hBz.out 5
    have z6 : W4.cell? ⟨w.heap.size, 6, none⟩ = some (.int .i64 m.nu) := blkC hBz.out 6
    have z7 : W4.cell? ⟨w.heap.size, 7, none⟩ = some (.string (sOf m.v)) := blkC hBz.out 7
    have z8 : W4.cell? ⟨w.heap.size, 8, none⟩ = some (.slice A m.l.length c) := blkC hBz.out 8
    have lz := blkX hBz.out
    have gy0 : W4.cell? ⟨W2.heap.size, 0, none⟩ = some (.int .i64 m.k) := blkC hBgy.out 0
    have gy1 : W4.cell? ⟨W2.heap.size, 1, none⟩ = some (.int .i64 m.fr) := blkC hBgy.out 1
    have gy2 : W4.cell? ⟨W2.heap.size, 2, none⟩ = some (.int .i64 m.tt) := blkC hBgy.out 2
    have gy3 : W4.cell? ⟨W2.heap.size, 3, none⟩ = some (.int .i64 m.ro) := blkC hBgy.out 3
    have gy4 : W4.cell? ⟨W2.heap.size, 4, none⟩ = some (.int .i64 m.no) := blkC hBgy.out 4
    have gy5 : W4.cell? ⟨W2.heap.size, 5, none⟩ = some (.int .i64 m.sl) := blkC hBgy.out 5
    have gy6 : W4.cell? ⟨W2.heap.size, 6, none⟩ = some (.int .i64 m.nu) := blkC hBgy.out 6
    have gy7 : W4.cell? ⟨W2.heap.size, 7, none⟩ = some (.string (sOf m.v)) := blkC hBgy.out 7
    have gy8 : W4.cell? ⟨W2.heap.size, 8, none⟩ = some (.slice A5 m.l.length c5) := blkC hBgy.out 8
    have lgy := blkX hBgy.out
    go_wp2_with (fail)
    refine (renc_any m A c _ (SL.keep hI.out.es kx.out) (by have := hI.out.n; omega)).mono ?_
    rintro e W5 ⟨A7, c7, rfl, j7⟩
    have bq := j7.2
    have hr7 := Lib.hid (RB.of_own j7.1)
    have kx5 := Lib.hid (kx.out.trans (bq.mono kx.out.size))
    have hBz_5 := Lib.hid ((bq.block _ (blkX hBz.out)).trans hBz.out)
    have hBgy_5 := Lib.hid ((bq.block _ (blkX hBgy.out)).trans hBgy.out)
    have ho2 := Lib.hid (own_keep2 ho5.out bq)
    clear ho5; have ho5 := ho2; clear ho2
    have hr2 := Lib.hid (RB.below hr6.out bq)
    clear hr6; have hr6 := hr2; clear hr2
    clear z0 z1 z2 z3 z4 z5 z6 z7 z8 lz gy0 gy1 gy2 gy3 gy4 gy5 gy6 gy7 gy8 lgy 
    clear j7 bq kx; have kx := kx5; clear kx5
    clear hBz; have hBz := hBz_5; clear hBz_5
    clear hBgy; have hBgy := hBgy_5; clear hBgy_5
    have z0 : W5.cell? ⟨w.heap.size, 0, none⟩ = some (.int .i64 m.k) := blkC hBz.out 0
    have z1 : W5.cell? ⟨w.heap.size, 1, none⟩ = some (.int .i64 m.fr) := blkC hBz.out 1
    have z2 : W5.cell? ⟨w.heap.size, 2, none⟩ = some (.int .i64 m.tt) := blkC hBz.out 2
    have z3 : W5.cell? ⟨w.heap.size, 3, none⟩ = some (.int .i64 m.ro) := blkC hBz.out 3
    have z4 : W5.cell? ⟨w.heap.size, 4, none⟩ = some (.int .i64 m.no) := blkC hBz.out 4
    have z5 : W5.cell? ⟨w.heap.size, 5, none⟩ = some (.int .i64 m.sl) := blkC hBz.out 5
    have z6 : W5.cell? ⟨w.heap.size, 6, none⟩ = some (.int .i64 m.nu) := blkC hBz.out 6
    have z7 : W5.cell? ⟨w.heap.size, 7, none⟩ = some (.string (sOf m.v)) := blkC hBz.out 7
    have z8 : W5.cell? ⟨w.heap.size, 8, none⟩ = some (.slice A m.l.length c) := blkC hBz.out 8
    have lz := blkX hBz.out
    have gy0 : W5.cell? ⟨W2.heap.size, 0, none⟩ = some (.int .i64 m.k) := blkC hBgy.out 0
    have gy1 : W5.cell? ⟨W2.heap.size, 1, none⟩ = some (.int .i64 m.fr) := blkC hBgy.out 1
    have gy2 : W5.cell? ⟨W2.heap.size, 2, none⟩ = some (.int .i64 m.tt) := blkC hBgy.out 2
    have gy3 : W5.cell? ⟨W2.heap.size, 3, none⟩ = some (.int .i64 m.ro) := blkC hBgy.out 3
    have gy4 : W5.cell? ⟨W2.heap.size, 4, none⟩ = some (.int .i64 m.no) := blkC hBgy.out 4
    have gy5 : W5.cell? ⟨W2.heap.size, 5, none⟩ = some (.int .i64 m.sl) := blkC hBgy.out 5
    have gy6 : W5.cell? ⟨W2.heap.size, 6, none⟩ = some (.int .i64 m.nu) := blkC hBgy.out 6
    have gy7 : W5.cell? ⟨W2.heap.size, 7, none⟩ = some (.string (sOf m.v)) := blkC hBgy.out 7
    have gy8 : W5.cell? ⟨W2.heap.size, 8, none⟩ = some (.slice A5 m.l.length c5) := blkC hBgy.out 8
    have lgy := blkX hBgy.out
    go_wp2_with (fail)
    refine (textm_any m A c _ (hL.out.keep kx.out) (SL.keep hI.out.es kx.out) (by have := hI.out.n; omega)).mono ?_
    rintro e W6 ⟨rfl, bk⟩
    have kx6 := Lib.hid (kx.out.trans (bk.mono kx.out.size))
    have hBz_6 := Lib.hid ((bk.block _ (blkX hBz.out)).trans hBz.out)
    have hBgy_6 := Lib.hid ((bk.block _ (blkX hBgy.out)).trans hBgy.out)
    have ho2 := Lib.hid (own_keep2 ho5.out bk)
    clear ho5; have ho5 := ho2; clear ho2
    have hr2 := Lib.hid (RB.below hr6.out bk)
    clear hr6; have hr6 := hr2; clear hr2
    have hr2 := Lib.hid (RB.below hr7.out bk)
    clear hr7; have hr7 := hr2; clear hr2
    clear z0 z1 z2 z3 z4 z5 z6 z7 z8 lz gy0 gy1 gy2 gy3 gy4 gy5 gy6 gy7 gy8 lgy 
    clear bk kx; have kx := kx6; clear kx6
    clear hBz; have hBz := hBz_6; clear hBz_6
    clear hBgy; have hBgy := hBgy_6; clear hBgy_6
    have z0 : W6.cell? ⟨w.heap.size, 0, none⟩ = some (.int .i64 m.k) := blkC hBz.out 0
    have z1 : W6.cell? ⟨w.heap.size, 1, none⟩ = some (.int .i64 m.fr) := blkC hBz.out 1
    have z2 : W6.cell? ⟨w.heap.size, 2, none⟩ = some (.int .i64 m.tt) := blkC hBz.out 2
    have z3 : W6.cell? ⟨w.heap.size, 3, none⟩ = some (.int .i64 m.ro) := blkC hBz.out 3
    have z4 : W6.cell? ⟨w.heap.size, 4, none⟩ = some (.int .i64 m.no) := blkC hBz.out 4
    have z5 : W6.cell? ⟨w.heap.size, 5, none⟩ = some (.int .i64 m.sl) := blkC hBz.out 5
    have z6 : W6.cell? ⟨w.heap.size, 6, none⟩ = some (.int .i64 m.nu) := blkC hBz.out 6
    have z7 : W6.cell? ⟨w.heap.size, 7, none⟩ = some (.string (sOf m.v)) := blkC hBz.out 7
    have z8 : W6.cell? ⟨w.heap.size, 8, none⟩ = some (.slice A m.l.length c) := blkC hBz.out 8
    have lz := blkX hBz.out
    have gy0 : W6.cell? ⟨W2.heap.size, 0, none⟩ = some (.int .i64 m.k) := blkC hBgy.out 0
    have gy1 : W6.cell? ⟨W2.heap.size, 1, none⟩ = some (.int .i64 m.fr) := blkC hBgy.out 1
    have gy2 : W6.cell? ⟨W2.heap.size, 2, none⟩ = some (.int .i64 m.tt) := blkC hBgy.out 2
    have gy3 : W6.cell? ⟨W2.heap.size, 3, none⟩ = some (.int .i64 m.ro) := blkC hBgy.out 3
    have gy4 : W6.cell? ⟨W2.heap.size, 4, none⟩ = some (.int .i64 m.no) := blkC hBgy.out 4
    have gy5 : W6.cell? ⟨W2.heap.size, 5, none⟩ = some (.int .i64 m.sl) := blkC hBgy.out 5
    have gy6 : W6.cell? ⟨W2.heap.size, 6, none⟩ = some (.int .i64 m.nu) := blkC hBgy.out 6
    have gy7 : W6.cell? ⟨W2.heap.size, 7, none⟩ = some (.string (sOf m.v)) := blkC hBgy.out 7
    have gy8 : W6.cell? ⟨W2.heap.size, 8, none⟩ = some (.slice A5 m.l.length c5) := blkC hBgy.out 8
    have lgy := blkX hBgy.out
    go_wp2_with (fail)
    refine (rtxt_any m A c _ (hL.out.keep kx.out) (SL.keep hI.out.es kx.out) (by have := hI.out.n; omega)).mono ?_
    rintro e W7 ⟨rfl, bk⟩
    have kx7 := Lib.hid (kx.out.trans (bk.mono kx.out.size))
    have hBz_7 := Lib.hid ((bk.block _ (blkX hBz.out)).trans hBz.out)
    have hBgy_7 := Lib.hid ((bk.block _ (blkX hBgy.out)).trans hBgy.out)
    have ho2 := Lib.hid (own_keep2 ho5.out bk)
    clear ho5; have ho5 := ho2; clear ho2
    have hr2 := Lib.hid (RB.below hr6.out bk)
    clear hr6; have hr6 := hr2; clear hr2
    have hr2 := Lib.hid (RB.below hr7.out bk)
    clear hr7; have hr7 := hr2; clear hr2
    clear z0 z1 z2 z3 z4 z5 z6 z7 z8 lz gy0 gy1 gy2 gy3 gy4 gy5 gy6 gy7 gy8 lgy 
    clear bk kx; have kx := kx7; clear kx7
    clear hBz; have hBz := hBz_7; clear hBz_7
    clear hBgy; have hBgy := hBgy_7; clear hBgy_7
    have z0 : W7.cell? ⟨w.heap.size, 0, none⟩ = some (.int .i64 m.k) := blkC hBz.out 0
    have z1 : W7.cell? ⟨w.heap.size, 1, none⟩ = some (.int .i64 m.fr) := blkC hBz.out 1
    have z2 : W7.cell? ⟨w.heap.size, 2, none⟩ = some (.int .i64 m.tt) := blkC hBz.out 2
    have z3 : W7.cell? ⟨w.heap.size, 3, none⟩ = some (.int .i64 m.ro) := blkC hBz.out 3
    have z4 : W7.cell? ⟨w.heap.size, 4, none⟩ = some (.int .i64 m.no) := blkC hBz.out 4
    have z5 : W7.cell? ⟨w.heap.size, 5, none⟩ = some (.int .i64 m.sl) := blkC hBz.out 5
    have z6 : W7.cell? ⟨w.heap.size, 6, none⟩ = some (.int .i64 m.nu) := blkC hBz.out 6
    have z7 : W7.cell? ⟨w.heap.size, 7, none⟩ = some (.string (sOf m.v)) := blkC hBz.out 7
    have z8 : W7.cell? ⟨w.heap.size, 8, none⟩ = some (.slice A m.l.length c) := blkC hBz.out 8
    have lz := blkX hBz.out
    have gy0 : W7.cell? ⟨W2.heap.size, 0, none⟩ = some (.int .i64 m.k) := blkC hBgy.out 0
    have gy1 : W7.cell? ⟨W2.heap.size, 1, none⟩ = some (.int .i64 m.fr) := blkC hBgy.out 1
    have gy2 : W7.cell? ⟨W2.heap.size, 2, none⟩ = some (.int .i64 m.tt) := blkC hBgy.out 2
    have gy3 : W7.cell? ⟨W2.heap.size, 3, none⟩ = some (.int .i64 m.ro) := blkC hBgy.out 3
    have gy4 : W7.cell? ⟨W2.heap.size, 4, none⟩ = some (.int .i64 m.no) := blkC hBgy.out 4
    have gy5 : W7.cell? ⟨W2.heap.size, 5, none⟩ = some (.int .i64 m.sl) := blkC hBgy.out 5
    have gy6 : W7.cell? ⟨W2.heap.size, 6, none⟩ = some (.int .i64 m.nu) := blkC hBgy.out 6
    have gy7 : W7.cell? ⟨W2.heap.size, 7, none⟩ = some (.string (sOf m.v)) := blkC hBgy.out 7
    have gy8 : W7.cell? ⟨W2.heap.size, 8, none⟩ = some (.slice A5 m.l.length c5) := blkC hBgy.out 8
    have lgy := blkX hBgy.out
    have hE1 := fun V hl hx => check_m m A c V hl hx (by have := hI.out.n; omega)
    have hE2 := fun V hx => rchk_any m A c V hx (by have := hI.out.n; omega)
    have hE5 := fun V hx hy => requal_m m m A A5 c c5 V hx hy (by have := hI.out.n; omega) (by have := hI.out.n; omega)
    simp only [show decide (m = m) = true from decide_eq_true rfl] at hE5
    have hq1 := fun V (h : RB V A6 (encB m).length (encB m)) => h.str c6
    have hq2 := fun V (h : RB V A7 (encB m).length (encB m)) => h.str c7
    obtain ⟨X, hX⟩ : ∃ X : ByteArray, (⟨(encB m).toArray⟩ : ByteArray) = X := ⟨_, rfl⟩
    rw [hX] at hq1 hq2
    obtain ⟨ne, hne⟩ : ∃ k, (encB m).length = k := ⟨_, rfl⟩
    obtain ⟨z, hz⟩ : ∃ z, encE m = z := ⟨_, rfl⟩
    obtain ⟨S, hS⟩ : ∃ S, sOf (txtM m) = S := ⟨_, rfl⟩
    obtain ⟨pk, hpk⟩ : ∃ p, pxB m.k = p := ⟨_, rfl⟩
    have hP1 := fun V => paxos_any m.k V
    have hP2 := fun V => rpaxos_any m.k V
    rw [hpk] at hP1 hP2
    simp only [hz] at hE1 hE2
    rw [hne] at hq1 hq2
    have hr6' := hr6.out; have hr7' := hr7.out; rw [hne] at hr6' hr7'
    replace hr6 := Lib.hid hr6'; replace hr7 := Lib.hid hr7'
    clear hr6' hr7'
    simp only [hz, hne, hS]
    replace hE1 := Lib.hid hE1
    replace hE2 := Lib.hid hE2
    replace hE5 := Lib.hid hE5
    replace hP1 := Lib.hid hP1
    replace hP2 := Lib.hid hP2
    replace hX := Lib.hid hX
    replace hne := Lib.hid hne
    replace hz := Lib.hid hz
    replace hS := Lib.hid hS
    replace hpk := Lib.hid hpk
    replace hq1 := Lib.hid hq1
    replace hq2 := Lib.hid hq2
    go_wp2_with (fail)
    have hSv : ∀ W' : World, W'.heap[w.heap.size]? = some (.cells #[.int .i64 m.k, .int .i64 m.fr, .int .i64 m.tt, .int .i64 m.ro, .int .i64 m.no, .int .i64 m.sl, .int .i64 m.nu, .string (sOf m.v), .slice A m.l.length c] 28 (0, 0)) → W'.heap[W2.heap.size]? = some (.cells #[.int .i64 m.k, .int .i64 m.fr, .int .i64 m.tt, .int .i64 m.ro, .int .i64 m.no, .int .i64 m.sl, .int .i64 m.nu, .string (sOf m.v), .slice A5 m.l.length c5] 28 (0, 0)) → RB W' A6 ne (encB m) → RB W' A7 ne (encB m) → (fun W' : World => W'.cell? ⟨w.heap.size, 0, none⟩ = some (.int .i64 m.k) ∧ W'.cell? ⟨w.heap.size, 1, none⟩ = some (.int .i64 m.fr) ∧ W'.cell? ⟨w.heap.size, 2, none⟩ = some (.int .i64 m.tt) ∧ W'.cell? ⟨w.heap.size, 3, none⟩ = some (.int .i64 m.ro) ∧ W'.cell? ⟨w.heap.size, 4, none⟩ = some (.int .i64 m.no) ∧ W'.cell? ⟨w.heap.size, 5, none⟩ = some (.int .i64 m.sl) ∧ W'.cell? ⟨w.heap.size, 6, none⟩ = some (.int .i64 m.nu) ∧ W'.cell? ⟨w.heap.size, 7, none⟩ = some (.string (sOf m.v)) ∧ W'.cell? ⟨w.heap.size, 8, none⟩ = some (.slice A m.l.length c) ∧ W'.cell? ⟨W2.heap.size, 0, none⟩ = some (.int .i64 m.k) ∧ W'.cell? ⟨W2.heap.size, 1, none⟩ = some (.int .i64 m.fr) ∧ W'.cell? ⟨W2.heap.size, 2, none⟩ = some (.int .i64 m.tt) ∧ W'.cell? ⟨W2.heap.size, 3, none⟩ = some (.int .i64 m.ro) ∧ W'.cell? ⟨W2.heap.size, 4, none⟩ = some (.int .i64 m.no) ∧ W'.cell? ⟨W2.heap.size, 5, none⟩ = some (.int .i64 m.sl) ∧ W'.cell? ⟨W2.heap.size, 6, none⟩ = some (.int .i64 m.nu) ∧ W'.cell? ⟨W2.heap.size, 7, none⟩ = some (.string (sOf m.v)) ∧ W'.cell? ⟨W2.heap.size, 8, none⟩ = some (.slice A5 m.l.length c5) ∧ (convert 22 9 (.slice A6 ne c6)).run Tryz.prog W' = .ok (.string X) W' ∧ (convert 22 9 (.slice A7 ne c7)).run Tryz.prog W' = .ok (.string X) W') W' := by
      intro W' h1 h2 h3 h4
      exact ⟨blkC h1 0, blkC h1 1, blkC h1 2, blkC h1 3, blkC h1 4, blkC h1 5, blkC h1 6, blkC h1 7, blkC h1 8, blkC h2 0, blkC h2 1, blkC h2 2, blkC h2 3, blkC h2 4, blkC h2 5, blkC h2 6, blkC h2 7, blkC h2 8, hq1.out _ h3, hq2.out _ h4⟩
    replace hSv := Lib.hid hSv
    have bD : Below W7.heap.size W7 W7.drew := (Below.refl _ W7).drew
    have kx2 := Lib.hid (kx.out.trans (bD.mono kx.out.size))
    have ho2 := Lib.hid (own_keep2 ho5.out bD)
    have hr62 := Lib.hid (RB.below hr6.out bD)
    have hr72 := Lib.hid (RB.below hr7.out bD)
    have hBz2 := Lib.hid ((bD.block _ (blkX hBz.out)).trans hBz.out)
    have hBgy2 := Lib.hid ((bD.block _ (blkX hBgy.out)).trans hBgy.out)
    clear kx ho5 hr6 hr7 hBz hBgy; have kx := kx2; have ho5 := ho2; have hr6 := hr62; have hr7 := hr72; have hBz := hBz2; have hBgy := hBgy2; clear kx2 ho2 hr62 hr72 hBz2 hBgy2
    clear bD
    clear z0 z1 z2 z3 z4 z5 z6 z7 z8 lz gy0 gy1 gy2 gy3 gy4 gy5 gy6 gy7 gy8 lgy 
    refine wp_region_held_drew (S := (fun W' : World => W'.cell? ⟨w.heap.size, 0, none⟩ = some (.int .i64 m.k) ∧ W'.cell? ⟨w.heap.size, 1, none⟩ = some (.int .i64 m.fr) ∧ W'.cell? ⟨w.heap.size, 2, none⟩ = some (.int .i64 m.tt) ∧ W'.cell? ⟨w.heap.size, 3, none⟩ = some (.int .i64 m.ro) ∧ W'.cell? ⟨w.heap.size, 4, none⟩ = some (.int .i64 m.no) ∧ W'.cell? ⟨w.heap.size, 5, none⟩ = some (.int .i64 m.sl) ∧ W'.cell? ⟨w.heap.size, 6, none⟩ = some (.int .i64 m.nu) ∧ W'.cell? ⟨w.heap.size, 7, none⟩ = some (.string (sOf m.v)) ∧ W'.cell? ⟨w.heap.size, 8, none⟩ = some (.slice A m.l.length c) ∧ W'.cell? ⟨W2.heap.size, 0, none⟩ = some (.int .i64 m.k) ∧ W'.cell? ⟨W2.heap.size, 1, none⟩ = some (.int .i64 m.fr) ∧ W'.cell? ⟨W2.heap.size, 2, none⟩ = some (.int .i64 m.tt) ∧ W'.cell? ⟨W2.heap.size, 3, none⟩ = some (.int .i64 m.ro) ∧ W'.cell? ⟨W2.heap.size, 4, none⟩ = some (.int .i64 m.no) ∧ W'.cell? ⟨W2.heap.size, 5, none⟩ = some (.int .i64 m.sl) ∧ W'.cell? ⟨W2.heap.size, 6, none⟩ = some (.int .i64 m.nu) ∧ W'.cell? ⟨W2.heap.size, 7, none⟩ = some (.string (sOf m.v)) ∧ W'.cell? ⟨W2.heap.size, 8, none⟩ = some (.slice A5 m.l.length c5) ∧ (convert 22 9 (.slice A6 ne c6)).run Tryz.prog W' = .ok (.string X) W' ∧ (convert 22 9 (.slice A7 ne c7)).run Tryz.prog W' = .ok (.string X) W')) (by kernel_rfl) ?_ (fun hH => ?_)
    · exact hSv.out _ hBz.out hBgy.out hr6.out hr7.out
    refine wpAnyH_take (i := 0) (v := ?_) rfl (by kernel_rfl) (by kernel_rfl) (by kernel_rfl) (fun _ _ _ h => h) (Or.inl ⟨by rfl, by intro w hSw; go_simp; first | done | with_reducible rfl⟩) hH ?_
    simp only [List.getElem_toArray, List.getElem_cons_succ, List.getElem_cons_zero, Act.put, List.setIfInBounds_toArray, List.set_cons_zero, List.set_cons_succ]
    refine wpAnyH_take (i := 1) (v := ?_) rfl (by kernel_rfl) (by kernel_rfl) (by kernel_rfl) (fun _ _ _ h => h) (Or.inl ⟨by rfl, by intro w hSw; obtain ⟨s0, s1, s2, s3, s4, s5, s6, s7, s8, s9, s10, s11, s12, s13, s14, s15, s16, s17, s18, s19⟩ := hSw; go_simp; first | done | with_reducible rfl⟩) hH ?_
    simp only [List.getElem_toArray, List.getElem_cons_succ, List.getElem_cons_zero, Act.put, List.setIfInBounds_toArray, List.set_cons_zero, List.set_cons_succ]
    refine wpAnyH_take (i := 2) (v := ?_) rfl (by kernel_rfl) (by kernel_rfl) (by kernel_rfl) (fun _ _ _ h => h) (Or.inl ⟨by rfl, by intro w hSw; go_simp; first | done | with_reducible rfl⟩) hH ?_
    simp only [List.getElem_toArray, List.getElem_cons_succ, List.getElem_cons_zero, Act.put, List.setIfInBounds_toArray, List.set_cons_zero, List.set_cons_succ]
    refine wpAnyH_take (i := 3) (v := ?_) rfl (by kernel_rfl) (by kernel_rfl) (by kernel_rfl) (fun _ _ _ h => h) (Or.inl ⟨by rfl, by intro w hSw; obtain ⟨s0, s1, s2, s3, s4, s5, s6, s7, s8, s9, s10, s11, s12, s13, s14, s15, s16, s17, s18, s19⟩ := hSw; go_simp; first | done | with_reducible rfl⟩) hH ?_
    simp only [List.getElem_toArray, List.getElem_cons_succ, List.getElem_cons_zero, Act.put, List.setIfInBounds_toArray, List.set_cons_zero, List.set_cons_succ]
    refine wpAnyH_take (i := 4) (v := ?_) rfl (by kernel_rfl) (by kernel_rfl) (by kernel_rfl) (fun _ _ _ h => h) (Or.inl ⟨by rfl, by intro w hSw; go_simp; first | done | with_reducible rfl⟩) hH ?_
    simp only [List.getElem_toArray, List.getElem_cons_succ, List.getElem_cons_zero, Act.put, List.setIfInBounds_toArray, List.set_cons_zero, List.set_cons_succ]
    refine wpAnyH_take (i := 5) (v := ?_) rfl (by kernel_rfl) (by kernel_rfl) (by kernel_rfl) (fun _ _ _ h => h) (Or.inl ⟨by rfl, by intro w hSw; go_simp; first | done | with_reducible rfl⟩) hH ?_
    simp only [List.getElem_toArray, List.getElem_cons_succ, List.getElem_cons_zero, Act.put, List.setIfInBounds_toArray, List.set_cons_zero, List.set_cons_succ]
    refine wpAnyH_take (i := 6) (v := ?_) rfl (by kernel_rfl) (by kernel_rfl) (by kernel_rfl) (fun _ _ _ h => h) (Or.inl ⟨by rfl, by intro w hSw; go_simp; first | done | with_reducible rfl⟩) hH ?_
    simp only [List.getElem_toArray, List.getElem_cons_succ, List.getElem_cons_zero, Act.put, List.setIfInBounds_toArray, List.set_cons_zero, List.set_cons_succ]
    refine wpAnyH_take (i := 7) (v := ?_) rfl (by kernel_rfl) (by kernel_rfl) (by kernel_rfl) (fun _ _ _ h => h) (Or.inl ⟨by rfl, by intro w hSw; go_simp; first | done | with_reducible rfl⟩) hH ?_
    simp only [List.getElem_toArray, List.getElem_cons_succ, List.getElem_cons_zero, Act.put, List.setIfInBounds_toArray, List.set_cons_zero, List.set_cons_succ]
    refine wpAnyH_take (i := 8) (v := ?_) rfl (by kernel_rfl) (by kernel_rfl) (by kernel_rfl) (fun _ _ _ h => h) (Or.inl ⟨by rfl, by intro w hSw; go_simp; first | done | with_reducible rfl⟩) hH ?_
    simp only [List.getElem_toArray, List.getElem_cons_succ, List.getElem_cons_zero, Act.put, List.setIfInBounds_toArray, List.set_cons_zero, List.set_cons_succ]
    refine wpAnyH_take (i := 9) (v := ?_) rfl (by kernel_rfl) (by kernel_rfl) (by kernel_rfl) (fun _ _ _ h => h) (Or.inl ⟨by rfl, by intro w hSw; go_simp; first | done | with_reducible rfl⟩) hH ?_
    simp only [List.getElem_toArray, List.getElem_cons_succ, List.getElem_cons_zero, Act.put, List.setIfInBounds_toArray, List.set_cons_zero, List.set_cons_succ]
    refine wpAnyH_take (i := 10) (v := ?_) rfl (by kernel_rfl) (by kernel_rfl) (by kernel_rfl) (fun _ _ _ h => h) (Or.inl ⟨by rfl, by intro w hSw; go_simp; first | done | with_reducible rfl⟩) hH ?_
    simp only [List.getElem_toArray, List.getElem_cons_succ, List.getElem_cons_zero, Act.put, List.setIfInBounds_toArray, List.set_cons_zero, List.set_cons_succ]
    refine wpAnyH_take (i := 11) (v := ?_) rfl (by kernel_rfl) (by kernel_rfl) (by kernel_rfl) (fun _ _ _ h => h) (Or.inl ⟨by rfl, by intro w hSw; go_simp; first | done | with_reducible rfl⟩) hH ?_
    simp only [List.getElem_toArray, List.getElem_cons_succ, List.getElem_cons_zero, Act.put, List.setIfInBounds_toArray, List.set_cons_zero, List.set_cons_succ]
    refine wpAnyH_take (i := 12) (v := ?_) rfl (by kernel_rfl) (by kernel_rfl) (by kernel_rfl) (fun _ _ _ h => h) (Or.inl ⟨by rfl, by intro w hSw; go_simp; first | done | with_reducible rfl⟩) hH ?_
    simp only [List.getElem_toArray, List.getElem_cons_succ, List.getElem_cons_zero, Act.put, List.setIfInBounds_toArray, List.set_cons_zero, List.set_cons_succ]
    refine wpAnyH_take (i := 13) (v := ?_) rfl (by kernel_rfl) (by kernel_rfl) (by kernel_rfl) (fun _ _ _ h => h) (Or.inl ⟨by rfl, by intro w hSw; go_simp; first | done | with_reducible rfl⟩) hH ?_
    simp only [List.getElem_toArray, List.getElem_cons_succ, List.getElem_cons_zero, Act.put, List.setIfInBounds_toArray, List.set_cons_zero, List.set_cons_succ]
    refine wpAnyH_take (i := 14) (v := ?_) rfl (by kernel_rfl) (by kernel_rfl) (by kernel_rfl) (fun _ _ _ h => h) (Or.inl ⟨by rfl, by intro w hSw; go_simp; first | done | with_reducible rfl⟩) hH ?_
    simp only [List.getElem_toArray, List.getElem_cons_succ, List.getElem_cons_zero, Act.put, List.setIfInBounds_toArray, List.set_cons_zero, List.set_cons_succ]
    refine wpAnyH_take (i := 15) (v := ?_) rfl (by kernel_rfl) (by kernel_rfl) (by kernel_rfl) (fun _ _ _ h => h) (Or.inl ⟨by rfl, by intro w hSw; go_simp; first | done | with_reducible rfl⟩) hH ?_
    simp only [List.getElem_toArray, List.getElem_cons_succ, List.getElem_cons_zero, Act.put, List.setIfInBounds_toArray, List.set_cons_zero, List.set_cons_succ]
    refine wpAnyH_take (i := 16) (v := ?_) rfl (by kernel_rfl) (by kernel_rfl) (by kernel_rfl) (fun _ _ _ h => h) (Or.inl ⟨by rfl, by intro w hSw; go_simp; first | done | with_reducible rfl⟩) hH ?_
    simp only [List.getElem_toArray, List.getElem_cons_succ, List.getElem_cons_zero, Act.put, List.setIfInBounds_toArray, List.set_cons_zero, List.set_cons_succ]
    refine wpAnyH_take (i := 17) (v := ?_) rfl (by kernel_rfl) (by kernel_rfl) (by kernel_rfl) (fun _ _ _ h => h) (Or.inl ⟨by rfl, by intro w hSw; go_simp; first | done | with_reducible rfl⟩) hH ?_
    simp only [List.getElem_toArray, List.getElem_cons_succ, List.getElem_cons_zero, Act.put, List.setIfInBounds_toArray, List.set_cons_zero, List.set_cons_succ]
    refine wpAnyH_take (i := 18) (v := ?_) rfl (by kernel_rfl) (by kernel_rfl) (by kernel_rfl) (fun _ _ _ h => h) (Or.inl ⟨by rfl, by intro w hSw; go_simp; first | done | with_reducible rfl⟩) hH ?_
    simp only [List.getElem_toArray, List.getElem_cons_succ, List.getElem_cons_zero, Act.put, List.setIfInBounds_toArray, List.set_cons_zero, List.set_cons_succ]
    refine wpAnyH_take (i := 19) (v := ?_) rfl (by kernel_rfl) (by kernel_rfl) (by kernel_rfl) (fun _ _ _ h => h) (Or.inl ⟨by rfl, by intro w hSw; go_simp; first | done | with_reducible rfl⟩) hH ?_
    simp only [List.getElem_toArray, List.getElem_cons_succ, List.getElem_cons_zero, Act.put, List.setIfInBounds_toArray, List.set_cons_zero, List.set_cons_succ]
    refine wpAnyH_take (i := 20) (v := ?_) rfl (by kernel_rfl) (by kernel_rfl) (by kernel_rfl) (fun _ _ _ h => h) (Or.inl ⟨by rfl, by intro w hSw; go_simp; first | done | with_reducible rfl⟩) hH ?_
    simp only [List.getElem_toArray, List.getElem_cons_succ, List.getElem_cons_zero, Act.put, List.setIfInBounds_toArray, List.set_cons_zero, List.set_cons_succ]
    refine wpAnyH_take (i := 21) (v := ?_) rfl (by kernel_rfl) (by kernel_rfl) (by kernel_rfl) (fun _ _ _ h => h) (Or.inl ⟨by rfl, by intro w hSw; obtain ⟨s0, s1, s2, s3, s4, s5, s6, s7, s8, s9, s10, s11, s12, s13, s14, s15, s16, s17, s18, s19⟩ := hSw; go_simp; first | done | with_reducible rfl⟩) hH ?_
    simp only [List.getElem_toArray, List.getElem_cons_succ, List.getElem_cons_zero, Act.put, List.setIfInBounds_toArray, List.set_cons_zero, List.set_cons_succ]
    refine wpAnyH_take (i := 23) (v := ?_) rfl (by kernel_rfl) (by kernel_rfl) (by kernel_rfl) (fun _ _ _ h => h) (Or.inl ⟨by rfl, by intro w hSw; obtain ⟨s0, s1, s2, s3, s4, s5, s6, s7, s8, s9, s10, s11, s12, s13, s14, s15, s16, s17, s18, s19⟩ := hSw; go_simp; first | done | with_reducible rfl⟩) hH ?_
    simp only [List.getElem_toArray, List.getElem_cons_succ, List.getElem_cons_zero, Act.put, List.setIfInBounds_toArray, List.set_cons_zero, List.set_cons_succ]
    refine wpAnyH_ready (rs := [22]) (by kernel_rfl) (by simp) ?_
    refine AllReadyH.cons rfl (fun K hK => ?_) ?_
    · clear hH
      go_simp
      refine (hE1.out _ (hL.out.keep kx.out) (SL.keep hI.out.es kx.out)).mono ?_
      rintro e V22 ⟨rfl, bV⟩
      have kx2 := Lib.hid (kx.out.trans (bV.mono kx.out.size))
      have ho2 := Lib.hid (own_keep2 ho5.out bV)
      have hr62 := Lib.hid (RB.below hr6.out bV)
      have hr72 := Lib.hid (RB.below hr7.out bV)
      have hBz2 := Lib.hid ((bV.block _ (blkX hBz.out)).trans hBz.out)
      have hBgy2 := Lib.hid ((bV.block _ (blkX hBgy.out)).trans hBgy.out)
      clear kx ho5 hr6 hr7 hBz hBgy; have kx := kx2; have ho5 := ho2; have hr6 := hr62; have hr7 := hr72; have hBz := hBz2; have hBgy := hBgy2; clear kx2 ho2 hr62 hr72 hBz2 hBgy2
      clear bV
      refine hK.out _ _ (hSv.out _ hBz.out hBgy.out hr6.out hr7.out) (fun hH => ?_)
      clear hK K
      refine wpAnyH_ready (rs := [24]) (by kernel_rfl) (by simp) ?_
      refine AllReadyH.cons rfl (fun K hK => ?_) ?_
      · clear hH
        go_simp
        refine (hE2.out _ (SL.keep hI.out.es kx.out)).mono ?_
        rintro e V24 ⟨rfl, bV⟩
        have kx2 := Lib.hid (kx.out.trans (bV.mono kx.out.size))
        have ho2 := Lib.hid (own_keep2 ho5.out bV)
        have hr62 := Lib.hid (RB.below hr6.out bV)
        have hr72 := Lib.hid (RB.below hr7.out bV)
        have hBz2 := Lib.hid ((bV.block _ (blkX hBz.out)).trans hBz.out)
        have hBgy2 := Lib.hid ((bV.block _ (blkX hBgy.out)).trans hBgy.out)
        clear kx ho5 hr6 hr7 hBz hBgy; have kx := kx2; have ho5 := ho2; have hr6 := hr62; have hr7 := hr72; have hBz := hBz2; have hBgy := hBgy2; clear kx2 ho2 hr62 hr72 hBz2 hBgy2
        clear bV
        refine hK.out _ _ (hSv.out _ hBz.out hBgy.out hr6.out hr7.out) (fun hH => ?_)
        clear hK K
        refine wpAnyH_take (i := 25) (v := ?_) rfl (by kernel_rfl) (by kernel_rfl) (by kernel_rfl) (fun _ _ _ h => h) (Or.inl ⟨by rfl, by intro w hSw; go_simp; first | done | with_reducible rfl⟩) hH ?_
        simp only [List.getElem_toArray, List.getElem_cons_succ, List.getElem_cons_zero, Act.put, List.setIfInBounds_toArray, List.set_cons_zero, List.set_cons_succ]
        refine wpAnyH_take (i := 26) (v := ?_) rfl (by kernel_rfl) (by kernel_rfl) (by kernel_rfl) (fun _ _ _ h => h) (Or.inl ⟨by rfl, by intro w hSw; go_simp; first | done | with_reducible rfl⟩) hH ?_
        simp only [List.getElem_toArray, List.getElem_cons_succ, List.getElem_cons_zero, Act.put, List.setIfInBounds_toArray, List.set_cons_zero, List.set_cons_succ]
        refine wpAnyH_take (i := 27) (v := ?_) rfl (by kernel_rfl) (by kernel_rfl) (by kernel_rfl) (fun _ _ _ h => h) (Or.inl ⟨by rfl, by intro w hSw; go_simp; first | done | with_reducible rfl⟩) hH ?_
        simp only [List.getElem_toArray, List.getElem_cons_succ, List.getElem_cons_zero, Act.put, List.setIfInBounds_toArray, List.set_cons_zero, List.set_cons_succ]
        refine wpAnyH_take (i := 28) (v := ?_) rfl (by kernel_rfl) (by kernel_rfl) (by kernel_rfl) (fun _ _ _ h => h) (Or.inl ⟨by rfl, by intro w hSw; go_simp; first | done | with_reducible rfl⟩) hH ?_
        simp only [List.getElem_toArray, List.getElem_cons_succ, List.getElem_cons_zero, Act.put, List.setIfInBounds_toArray, List.set_cons_zero, List.set_cons_succ]
        refine wpAnyH_take (i := 29) (v := ?_) rfl (by kernel_rfl) (by kernel_rfl) (by kernel_rfl) (fun _ _ _ h => h) (Or.inl ⟨by rfl, by intro w hSw; obtain ⟨s0, s1, s2, s3, s4, s5, s6, s7, s8, s9, s10, s11, s12, s13, s14, s15, s16, s17, s18, s19⟩ := hSw; go_simp; first | done | with_reducible rfl⟩) hH ?_
        simp only [List.getElem_toArray, List.getElem_cons_succ, List.getElem_cons_zero, Act.put, List.setIfInBounds_toArray, List.set_cons_zero, List.set_cons_succ]
        refine wpAnyH_take (i := 31) (v := ?_) rfl (by kernel_rfl) (by kernel_rfl) (by kernel_rfl) (fun _ _ _ h => h) (Or.inl ⟨by rfl, by intro w hSw; go_simp; first | done | with_reducible rfl⟩) hH ?_
        simp only [List.getElem_toArray, List.getElem_cons_succ, List.getElem_cons_zero, Act.put, List.setIfInBounds_toArray, List.set_cons_zero, List.set_cons_succ]
        refine wpAnyH_take (i := 32) (v := ?_) rfl (by kernel_rfl) (by kernel_rfl) (by kernel_rfl) (fun _ _ _ h => h) (Or.inl ⟨by rfl, by intro w hSw; obtain ⟨s0, s1, s2, s3, s4, s5, s6, s7, s8, s9, s10, s11, s12, s13, s14, s15, s16, s17, s18, s19⟩ := hSw; go_simp; first | done | with_reducible rfl⟩) hH ?_
        simp only [List.getElem_toArray, List.getElem_cons_succ, List.getElem_cons_zero, Act.put, List.setIfInBounds_toArray, List.set_cons_zero, List.set_cons_succ]
        refine wpAnyH_ready (rs := [30]) (by kernel_rfl) (by simp) ?_
        refine AllReadyH.cons rfl (fun K hK => ?_) ?_
        · clear hH
          go_simp
          refine (hP1.out _).mono ?_
          rintro e V30 ⟨rfl, rfl⟩
          refine hK.out _ _ (hSv.out _ hBz.out hBgy.out hr6.out hr7.out) (fun hH => ?_)
          clear hK K
          refine wpAnyH_ready (rs := [33]) (by kernel_rfl) (by simp) ?_
          refine AllReadyH.cons rfl (fun K hK => ?_) ?_
          · clear hH
            go_simp
            refine (hP2.out _).mono ?_
            rintro e V33 ⟨rfl, rfl⟩
            refine hK.out _ _ (hSv.out _ hBz.out hBgy.out hr6.out hr7.out) (fun hH => ?_)
            clear hK K
            refine wpAnyH_take (i := 34) (v := ?_) rfl (by kernel_rfl) (by kernel_rfl) (by kernel_rfl) (fun _ _ _ h => h) (Or.inl ⟨by rfl, by intro w hSw; go_simp; first | done | with_reducible rfl⟩) hH ?_
            simp only [List.getElem_toArray, List.getElem_cons_succ, List.getElem_cons_zero, Act.put, List.setIfInBounds_toArray, List.set_cons_zero, List.set_cons_succ]
            refine wpAnyH_take (i := 35) (v := ?_) rfl (by kernel_rfl) (by kernel_rfl) (by kernel_rfl) (fun _ _ _ h => h) (Or.inl ⟨by rfl, by intro w hSw; go_simp; first | done | with_reducible rfl⟩) hH ?_
            simp only [List.getElem_toArray, List.getElem_cons_succ, List.getElem_cons_zero, Act.put, List.setIfInBounds_toArray, List.set_cons_zero, List.set_cons_succ]
            refine wpAnyH_take (i := 36) (v := ?_) rfl (by kernel_rfl) (by kernel_rfl) (by kernel_rfl) (fun _ _ _ h => h) (Or.inl ⟨by rfl, by intro w hSw; go_simp; first | done | with_reducible rfl⟩) hH ?_
            simp only [List.getElem_toArray, List.getElem_cons_succ, List.getElem_cons_zero, Act.put, List.setIfInBounds_toArray, List.set_cons_zero, List.set_cons_succ]
            refine wpAnyH_take (i := 37) (v := ?_) rfl (by kernel_rfl) (by kernel_rfl) (by kernel_rfl) (fun _ _ _ h => h) (Or.inl ⟨by rfl, by intro w hSw; obtain ⟨s0, s1, s2, s3, s4, s5, s6, s7, s8, s9, s10, s11, s12, s13, s14, s15, s16, s17, s18, s19⟩ := hSw; go_simp; first | done | with_reducible rfl⟩) hH ?_
            simp only [List.getElem_toArray, List.getElem_cons_succ, List.getElem_cons_zero, Act.put, List.setIfInBounds_toArray, List.set_cons_zero, List.set_cons_succ]
            refine wpAnyH_take (i := 38) (v := ?_) rfl (by kernel_rfl) (by kernel_rfl) (by kernel_rfl) (fun _ _ _ h => h) (Or.inl ⟨by rfl, by intro w hSw; obtain ⟨s0, s1, s2, s3, s4, s5, s6, s7, s8, s9, s10, s11, s12, s13, s14, s15, s16, s17, s18, s19⟩ := hSw; go_simp; first | done | with_reducible rfl⟩) hH ?_
            simp only [List.getElem_toArray, List.getElem_cons_succ, List.getElem_cons_zero, Act.put, List.setIfInBounds_toArray, List.set_cons_zero, List.set_cons_succ]
            refine wpAnyH_ready (rs := [39]) (by kernel_rfl) (by simp) ?_
            refine AllReadyH.cons rfl (fun K hK => ?_) ?_
            · clear hH
              go_simp
              refine (hE5.out _ (SL.keep hI.out.es kx.out) (SL.of_own encEnt_len ho5.out rfl)).mono ?_
              rintro e V39 ⟨rfl, bV⟩
              have kx2 := Lib.hid (kx.out.trans (bV.mono kx.out.size))
              have ho2 := Lib.hid (own_keep2 ho5.out bV)
              have hr62 := Lib.hid (RB.below hr6.out bV)
              have hr72 := Lib.hid (RB.below hr7.out bV)
              have hBz2 := Lib.hid ((bV.block _ (blkX hBz.out)).trans hBz.out)
              have hBgy2 := Lib.hid ((bV.block _ (blkX hBgy.out)).trans hBgy.out)
              clear kx ho5 hr6 hr7 hBz hBgy; have kx := kx2; have ho5 := ho2; have hr6 := hr62; have hr7 := hr72; have hBz := hBz2; have hBgy := hBgy2; clear kx2 ho2 hr62 hr72 hBz2 hBgy2
              clear bV
              refine hK.out _ _ (hSv.out _ hBz.out hBgy.out hr6.out hr7.out) (fun hH => ?_)
              clear hK K
              refine wpAnyH_take (i := 40) (v := ?_) rfl (by kernel_rfl) (by kernel_rfl) (by kernel_rfl) (fun _ _ _ h => h) (Or.inl ⟨by rfl, by intro w hSw; go_simp; first | done | with_reducible rfl⟩) hH ?_
              simp only [List.getElem_toArray, List.getElem_cons_succ, List.getElem_cons_zero, Act.put, List.setIfInBounds_toArray, List.set_cons_zero, List.set_cons_succ]
              refine wpAnyH_take (i := 41) (v := ?_) rfl (by kernel_rfl) (by kernel_rfl) (by kernel_rfl) (fun _ _ _ h => h) (Or.inl ⟨by rfl, by intro w hSw; go_simp; first | done | with_reducible rfl⟩) hH ?_
              simp only [List.getElem_toArray, List.getElem_cons_succ, List.getElem_cons_zero, Act.put, List.setIfInBounds_toArray, List.set_cons_zero, List.set_cons_succ]
              refine wpAnyH_ready (rs := [42]) (by kernel_rfl) (by simp) ?_
              refine AllReadyH.cons rfl (fun K hK => ?_) ?_
              · clear hH
                go_simp
                refine (works_any _ (hL.out.keep kx.out)).mono ?_
                rintro e V42 ⟨rfl, bV⟩
                have kx2 := Lib.hid (kx.out.trans (bV.mono kx.out.size))
                have ho2 := Lib.hid (own_keep2 ho5.out bV)
                have hr62 := Lib.hid (RB.below hr6.out bV)
                have hr72 := Lib.hid (RB.below hr7.out bV)
                have hBz2 := Lib.hid ((bV.block _ (blkX hBz.out)).trans hBz.out)
                have hBgy2 := Lib.hid ((bV.block _ (blkX hBgy.out)).trans hBgy.out)
                clear kx ho5 hr6 hr7 hBz hBgy; have kx := kx2; have ho5 := ho2; have hr6 := hr62; have hr7 := hr72; have hBz := hBz2; have hBgy := hBgy2; clear kx2 ho2 hr62 hr72 hBz2 hBgy2
                clear bV
                refine hK.out _ _ (hSv.out _ hBz.out hBgy.out hr6.out hr7.out) (fun hH => ?_)
                clear hK K
                refine wpAnyH_take (i := 43) (v := ?_) rfl (by kernel_rfl) (by kernel_rfl) (by kernel_rfl) (fun _ _ _ h => h) (Or.inl ⟨by rfl, by intro w hSw; go_simp; first | done | with_reducible rfl⟩) hH ?_
                simp only [List.getElem_toArray, List.getElem_cons_succ, List.getElem_cons_zero, Act.put, List.setIfInBounds_toArray, List.set_cons_zero, List.set_cons_succ]
                refine wpAnyH_take (i := 44) (v := ?_) rfl (by kernel_rfl) (by kernel_rfl) (by kernel_rfl) (fun _ _ _ h => h) (Or.inl ⟨by rfl, by intro w hSw; go_simp; first | done | with_reducible rfl⟩) hH ?_
                simp only [List.getElem_toArray, List.getElem_cons_succ, List.getElem_cons_zero, Act.put, List.setIfInBounds_toArray, List.set_cons_zero, List.set_cons_succ]
                refine wpAnyH_done (by kernel_rfl) ?_ _
                clear hH hSv hE1 hE2 hE5 hP1 hP2
                go_wp2_with (fail)
                go_ret
                exact ⟨rfl, kx.out⟩
              exact AllReadyH.nil
            exact AllReadyH.nil
          exact AllReadyH.nil
        exact AllReadyH.nil
      exact AllReadyH.nil
    exact AllReadyH.nil
end Go.Proofs.YtlinjanflenljaaGreatDoor
