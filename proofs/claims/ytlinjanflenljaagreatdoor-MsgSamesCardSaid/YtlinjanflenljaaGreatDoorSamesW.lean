/- Messages that are equal: the walk. -/
import Derived.Test.YtlinjanflenljaaGreatDoorCutsW
import Derived.Test.YtlinjanflenljaaGreatDoorREqM
import Derived.Deep.RegionHeld3
namespace Go.Proofs.YtlinjanflenljaaGreatDoor
open Go.RowKit
set_option linter.unusedSimpArgs false
set_option linter.unusedVariables false
set_option linter.unusedSectionVars false
set_option maxRecDepth 10000
theorem flat_set0 (v : Int) : ∀ (l : List Ent) (i : Nat) (x : Ent), l[i]? = some x → flat encEnt (l.set i { x with sl := v }) = (flat encEnt l).set (i * 4) (.int .i64 v)
  | [], i, x, h => by simp at h
  | y :: r, 0, x, h => by
    simp only [List.getElem?_cons_zero, Option.some.injEq] at h
    subst h
    simp [flat, encEnt]
  | y :: r, i + 1, x, h => by
    have ih := flat_set0 v r i x (by simpa using h)
    simp only [flat, List.flatMap_cons, List.set_cons_succ] at ih ⊢
    rw [ih, List.set_append_right _ _ (by rw [encEnt_len]; omega), encEnt_len, show (i + 1) * 4 - 4 = i * 4 from by omega]
set_option maxHeartbeats 64000000 in
theorem sames_walk (m n : Mg) (A B : Option Addr) (c d : Nat) (w : World) (hL : Ldr w) (hI : IsM w m A c) (hJ : IsM w n B d) :
    Calls Tryz.prog 10 #[.agg #[.int .i64 m.k, .int .i64 m.fr, .int .i64 m.tt, .int .i64 m.ro, .int .i64 m.no, .int .i64 m.sl, .int .i64 m.nu, .string (sOf m.v), .slice A m.l.length c], .agg #[.int .i64 n.k, .int .i64 n.fr, .int .i64 n.tt, .int .i64 n.ro, .int .i64 n.no, .int .i64 n.sl, .int .i64 n.nu, .string (sOf n.v), .slice B n.l.length d]] w fun e w' => e = .returned (.bool true) ∧ Below w.heap.size w w' := by
  obtain ⟨U, hU⟩ : ∃ U, U = (w.alloc (.cells #[.int .i64 m.k, .int .i64 m.fr, .int .i64 m.tt, .int .i64 m.ro, .int .i64 m.no, .int .i64 m.sl, .int .i64 m.nu, .string (sOf m.v), .slice A m.l.length c] 28)).alloc (.cells #[.int .i64 n.k, .int .i64 n.fr, .int .i64 n.tt, .int .i64 n.ro, .int .i64 n.no, .int .i64 n.sl, .int .i64 n.nu, .string (sOf n.v), .slice B n.l.length d] 28) := ⟨_, rfl⟩
  have kx : Below w.heap.size w U := by rw [hU]; exact ((Below.refl _ w).alloc (Nat.le_refl _) _).alloc (by simp) _
  have hBz : U.heap[w.heap.size]? = some (.cells #[.int .i64 m.k, .int .i64 m.fr, .int .i64 m.tt, .int .i64 m.ro, .int .i64 m.no, .int .i64 m.sl, .int .i64 m.nu, .string (sOf m.v), .slice A m.l.length c] 28 (0, 0)) := by rw [hU]; exact (hpOld _ (by simp)).trans (hpNew w _)
  have hBx : U.heap[w.heap.size + 1]? = some (.cells #[.int .i64 n.k, .int .i64 n.fr, .int .i64 n.tt, .int .i64 n.ro, .int .i64 n.no, .int .i64 n.sl, .int .i64 n.nu, .string (sOf n.v), .slice B n.l.length d] 28 (0, 0)) := by rw [hU]; exact hpNewAt _ (by simp)
  replace hL := Lib.hid hL; replace hI := Lib.hid hI; replace hJ := Lib.hid hJ; replace hBz := Lib.hid hBz; replace hBx := Lib.hid hBx; replace kx := Lib.hid kx
  go_enter Tryz.func10, Tryz.ntmps10
  go_wp2_with (fail)
  rw [← hU]
  clear hU
  refine (short_any m A c U (hI.out.keep kx.out)).mono ?_
  rintro e W1 ⟨⟨b, rfl, -⟩, b1⟩
  have kx1 := Lib.hid (kx.out.trans (b1.mono kx.out.size))
  have hBz_1 := Lib.hid ((b1.block _ (blkX hBz.out)).trans hBz.out)
  have hBx_1 := Lib.hid ((b1.block _ (blkX hBx.out)).trans hBx.out)
  clear b1 kx; have kx := kx1; clear kx1
  clear hBz; have hBz := hBz_1; clear hBz_1
  clear hBx; have hBx := hBx_1; clear hBx_1
  have z0 : W1.cell? ⟨w.heap.size, 0, none⟩ = some (.int .i64 m.k) := blkC hBz.out 0
  have z1 : W1.cell? ⟨w.heap.size, 1, none⟩ = some (.int .i64 m.fr) := blkC hBz.out 1
  have z2 : W1.cell? ⟨w.heap.size, 2, none⟩ = some (.int .i64 m.tt) := blkC hBz.out 2
  have z3 : W1.cell? ⟨w.heap.size, 3, none⟩ = some (.int .i64 m.ro) := blkC hBz.out 3
  have z4 : W1.cell? ⟨w.heap.size, 4, none⟩ = some (.int .i64 m.no) := blkC hBz.out 4
  have z5 : W1.cell? ⟨w.heap.size, 5, none⟩ = some (.int .i64 m.sl) := blkC hBz.out 5
  have z6 : W1.cell? ⟨w.heap.size, 6, none⟩ = some (.int .i64 m.nu) := blkC hBz.out 6
  have z7 : W1.cell? ⟨w.heap.size, 7, none⟩ = some (.string (sOf m.v)) := blkC hBz.out 7
  have z8 : W1.cell? ⟨w.heap.size, 8, none⟩ = some (.slice A m.l.length c) := blkC hBz.out 8
  have lz := blkX hBz.out
  have x0 : W1.cell? ⟨w.heap.size + 1, 0, none⟩ = some (.int .i64 n.k) := blkC hBx.out 0
  have x1 : W1.cell? ⟨w.heap.size + 1, 1, none⟩ = some (.int .i64 n.fr) := blkC hBx.out 1
  have x2 : W1.cell? ⟨w.heap.size + 1, 2, none⟩ = some (.int .i64 n.tt) := blkC hBx.out 2
  have x3 : W1.cell? ⟨w.heap.size + 1, 3, none⟩ = some (.int .i64 n.ro) := blkC hBx.out 3
  have x4 : W1.cell? ⟨w.heap.size + 1, 4, none⟩ = some (.int .i64 n.no) := blkC hBx.out 4
  have x5 : W1.cell? ⟨w.heap.size + 1, 5, none⟩ = some (.int .i64 n.sl) := blkC hBx.out 5
  have x6 : W1.cell? ⟨w.heap.size + 1, 6, none⟩ = some (.int .i64 n.nu) := blkC hBx.out 6
  have x7 : W1.cell? ⟨w.heap.size + 1, 7, none⟩ = some (.string (sOf n.v)) := blkC hBx.out 7
  have x8 : W1.cell? ⟨w.heap.size + 1, 8, none⟩ = some (.slice B n.l.length d) := blkC hBx.out 8
  have lx := blkX hBx.out
  cases b
  · go_wp2_with (fail)
    refine (works_any _ (hL.out.keep kx.out)).mono ?_
    rintro e W2 ⟨rfl, bv⟩
    have kx2 := Lib.hid (kx.out.trans (bv.mono kx.out.size))
    have hBz_2 := Lib.hid ((bv.block _ (blkX hBz.out)).trans hBz.out)
    have hBx_2 := Lib.hid ((bv.block _ (blkX hBx.out)).trans hBx.out)
    clear z0 z1 z2 z3 z4 z5 z6 z7 z8 lz x0 x1 x2 x3 x4 x5 x6 x7 x8 lx 
    clear bv kx; have kx := kx2; clear kx2
    clear hBz; have hBz := hBz_2; clear hBz_2
    clear hBx; have hBx := hBx_2; clear hBx_2
    go_wp2_with (fail)
    go_ret
    exact ⟨rfl, kx.out⟩
  · go_wp2_with (fail)
    refine (short_any n B d _ (hJ.out.keep kx.out)).mono ?_
    rintro e W2 ⟨⟨b2, rfl, -⟩, b1⟩
    have kx2 := Lib.hid (kx.out.trans (b1.mono kx.out.size))
    have hBz_2 := Lib.hid ((b1.block _ (blkX hBz.out)).trans hBz.out)
    have hBx_2 := Lib.hid ((b1.block _ (blkX hBx.out)).trans hBx.out)
    clear z0 z1 z2 z3 z4 z5 z6 z7 z8 lz x0 x1 x2 x3 x4 x5 x6 x7 x8 lx 
    clear b1 kx; have kx := kx2; clear kx2
    clear hBz; have hBz := hBz_2; clear hBz_2
    clear hBx; have hBx := hBx_2; clear hBx_2
    have z0 : W2.cell? ⟨w.heap.size, 0, none⟩ = some (.int .i64 m.k) := blkC hBz.out 0
    have z1 : W2.cell? ⟨w.heap.size, 1, none⟩ = some (.int .i64 m.fr) := blkC hBz.out 1
    have z2 : W2.cell? ⟨w.heap.size, 2, none⟩ = some (.int .i64 m.tt) := blkC hBz.out 2
    have z3 : W2.cell? ⟨w.heap.size, 3, none⟩ = some (.int .i64 m.ro) := blkC hBz.out 3
    have z4 : W2.cell? ⟨w.heap.size, 4, none⟩ = some (.int .i64 m.no) := blkC hBz.out 4
    have z5 : W2.cell? ⟨w.heap.size, 5, none⟩ = some (.int .i64 m.sl) := blkC hBz.out 5
    have z6 : W2.cell? ⟨w.heap.size, 6, none⟩ = some (.int .i64 m.nu) := blkC hBz.out 6
    have z7 : W2.cell? ⟨w.heap.size, 7, none⟩ = some (.string (sOf m.v)) := blkC hBz.out 7
    have z8 : W2.cell? ⟨w.heap.size, 8, none⟩ = some (.slice A m.l.length c) := blkC hBz.out 8
    have lz := blkX hBz.out
    have x0 : W2.cell? ⟨w.heap.size + 1, 0, none⟩ = some (.int .i64 n.k) := blkC hBx.out 0
    have x1 : W2.cell? ⟨w.heap.size + 1, 1, none⟩ = some (.int .i64 n.fr) := blkC hBx.out 1
    have x2 : W2.cell? ⟨w.heap.size + 1, 2, none⟩ = some (.int .i64 n.tt) := blkC hBx.out 2
    have x3 : W2.cell? ⟨w.heap.size + 1, 3, none⟩ = some (.int .i64 n.ro) := blkC hBx.out 3
    have x4 : W2.cell? ⟨w.heap.size + 1, 4, none⟩ = some (.int .i64 n.no) := blkC hBx.out 4
    have x5 : W2.cell? ⟨w.heap.size + 1, 5, none⟩ = some (.int .i64 n.sl) := blkC hBx.out 5
    have x6 : W2.cell? ⟨w.heap.size + 1, 6, none⟩ = some (.int .i64 n.nu) := blkC hBx.out 6
    have x7 : W2.cell? ⟨w.heap.size + 1, 7, none⟩ = some (.string (sOf n.v)) := blkC hBx.out 7
    have x8 : W2.cell? ⟨w.heap.size + 1, 8, none⟩ = some (.slice B n.l.length d) := blkC hBx.out 8
    have lx := blkX hBx.out
    cases b2
    · go_wp2_with (fail)
      refine (works_any _ (hL.out.keep kx.out)).mono ?_
      rintro e W3 ⟨rfl, bv⟩
      have kx3 := Lib.hid (kx.out.trans (bv.mono kx.out.size))
      have hBz_3 := Lib.hid ((bv.block _ (blkX hBz.out)).trans hBz.out)
      have hBx_3 := Lib.hid ((bv.block _ (blkX hBx.out)).trans hBx.out)
      clear z0 z1 z2 z3 z4 z5 z6 z7 z8 lz x0 x1 x2 x3 x4 x5 x6 x7 x8 lx 
      clear bv kx; have kx := kx3; clear kx3
      clear hBz; have hBz := hBz_3; clear hBz_3
      clear hBx; have hBx := hBx_3; clear hBx_3
      go_wp2_with (fail)
      go_ret
      exact ⟨rfl, kx.out⟩
    · go_wp2_with (fail)
      have hlw := Lib.hid kx.out.size
      refine (copy_any m A c _ (hI.out.keep kx.out)).mono ?_
      rintro e W3 ⟨A3, c3, rfl, ho, b1⟩
      have kx3 := Lib.hid (kx.out.trans (b1.mono kx.out.size))
      have hBz_3 := Lib.hid ((b1.block _ (blkX hBz.out)).trans hBz.out)
      have hBx_3 := Lib.hid ((b1.block _ (blkX hBx.out)).trans hBx.out)
      replace ho := Lib.hid (ho.mono (base' := w.heap.size) kx.out.size)
      clear z0 z1 z2 z3 z4 z5 z6 z7 z8 lz x0 x1 x2 x3 x4 x5 x6 x7 x8 lx 
      clear b1 kx; have kx := kx3; clear kx3
      clear hBz; have hBz := hBz_3; clear hBz_3
      clear hBx; have hBx := hBx_3; clear hBx_3
      have z0 : W3.cell? ⟨w.heap.size, 0, none⟩ = some (.int .i64 m.k) := blkC hBz.out 0
      have z1 : W3.cell? ⟨w.heap.size, 1, none⟩ = some (.int .i64 m.fr) := blkC hBz.out 1
      have z2 : W3.cell? ⟨w.heap.size, 2, none⟩ = some (.int .i64 m.tt) := blkC hBz.out 2
      have z3 : W3.cell? ⟨w.heap.size, 3, none⟩ = some (.int .i64 m.ro) := blkC hBz.out 3
      have z4 : W3.cell? ⟨w.heap.size, 4, none⟩ = some (.int .i64 m.no) := blkC hBz.out 4
      have z5 : W3.cell? ⟨w.heap.size, 5, none⟩ = some (.int .i64 m.sl) := blkC hBz.out 5
      have z6 : W3.cell? ⟨w.heap.size, 6, none⟩ = some (.int .i64 m.nu) := blkC hBz.out 6
      have z7 : W3.cell? ⟨w.heap.size, 7, none⟩ = some (.string (sOf m.v)) := blkC hBz.out 7
      have z8 : W3.cell? ⟨w.heap.size, 8, none⟩ = some (.slice A m.l.length c) := blkC hBz.out 8
      have lz := blkX hBz.out
      have x0 : W3.cell? ⟨w.heap.size + 1, 0, none⟩ = some (.int .i64 n.k) := blkC hBx.out 0
      have x1 : W3.cell? ⟨w.heap.size + 1, 1, none⟩ = some (.int .i64 n.fr) := blkC hBx.out 1
      have x2 : W3.cell? ⟨w.heap.size + 1, 2, none⟩ = some (.int .i64 n.tt) := blkC hBx.out 2
      have x3 : W3.cell? ⟨w.heap.size + 1, 3, none⟩ = some (.int .i64 n.ro) := blkC hBx.out 3
      have x4 : W3.cell? ⟨w.heap.size + 1, 4, none⟩ = some (.int .i64 n.no) := blkC hBx.out 4
      have x5 : W3.cell? ⟨w.heap.size + 1, 5, none⟩ = some (.int .i64 n.sl) := blkC hBx.out 5
      have x6 : W3.cell? ⟨w.heap.size + 1, 6, none⟩ = some (.int .i64 n.nu) := blkC hBx.out 6
      have x7 : W3.cell? ⟨w.heap.size + 1, 7, none⟩ = some (.string (sOf n.v)) := blkC hBx.out 7
      have x8 : W3.cell? ⟨w.heap.size + 1, 8, none⟩ = some (.slice B n.l.length d) := blkC hBx.out 8
      have lx := blkX hBx.out
      obtain ⟨W4, hW4⟩ : ∃ W', W' = W3.alloc (.cells #[.int .i64 m.k, .int .i64 m.fr, .int .i64 m.tt, .int .i64 m.ro, .int .i64 m.no, .int .i64 m.sl, .int .i64 m.nu, .string (sOf m.v), .slice A3 m.l.length c3] 28) := ⟨_, rfl⟩
      have bb : Below W3.heap.size W3 W4 := by rw [hW4]; exact (Below.refl _ W3).alloc (Nat.le_refl _) _
      have hBgc := Lib.hid (show W4.heap[W3.heap.size]? = some (.cells #[.int .i64 m.k, .int .i64 m.fr, .int .i64 m.tt, .int .i64 m.ro, .int .i64 m.no, .int .i64 m.sl, .int .i64 m.nu, .string (sOf m.v), .slice A3 m.l.length c3] 28 (0, 0)) from by rw [hW4]; exact hpNew W3 _)
      have kx4 := Lib.hid (kx.out.trans (bb.mono kx.out.size))
      have hBz_4 := Lib.hid ((bb.block _ (blkX hBz.out)).trans hBz.out)
      have hBx_4 := Lib.hid ((bb.block _ (blkX hBx.out)).trans hBx.out)
      have ho2 := Lib.hid (own_keep2 ho.out bb)
      clear ho; have ho := ho2; clear ho2
      clear bb kx; have kx := kx4; clear kx4
      clear hBz; have hBz := hBz_4; clear hBz_4
      clear hBx; have hBx := hBx_4; clear hBx_4
      go_wp2_with (fail)
      rw [← hW4]
      replace hW4 := Lib.hid hW4
      have hSv : ∀ W' : World, W'.heap[w.heap.size]? = some (.cells #[.int .i64 m.k, .int .i64 m.fr, .int .i64 m.tt, .int .i64 m.ro, .int .i64 m.no, .int .i64 m.sl, .int .i64 m.nu, .string (sOf m.v), .slice A m.l.length c] 28 (0, 0)) → W'.heap[w.heap.size + 1]? = some (.cells #[.int .i64 n.k, .int .i64 n.fr, .int .i64 n.tt, .int .i64 n.ro, .int .i64 n.no, .int .i64 n.sl, .int .i64 n.nu, .string (sOf n.v), .slice B n.l.length d] 28 (0, 0)) → W'.heap[W3.heap.size]? = some (.cells #[.int .i64 m.k, .int .i64 m.fr, .int .i64 m.tt, .int .i64 m.ro, .int .i64 m.no, .int .i64 m.sl, .int .i64 m.nu, .string (sOf m.v), .slice A3 m.l.length c3] 28 (0, 0)) → (fun W' : World => W'.cell? ⟨w.heap.size, 0, none⟩ = some (.int .i64 m.k) ∧ W'.cell? ⟨w.heap.size, 1, none⟩ = some (.int .i64 m.fr) ∧ W'.cell? ⟨w.heap.size, 2, none⟩ = some (.int .i64 m.tt) ∧ W'.cell? ⟨w.heap.size, 3, none⟩ = some (.int .i64 m.ro) ∧ W'.cell? ⟨w.heap.size, 4, none⟩ = some (.int .i64 m.no) ∧ W'.cell? ⟨w.heap.size, 5, none⟩ = some (.int .i64 m.sl) ∧ W'.cell? ⟨w.heap.size, 6, none⟩ = some (.int .i64 m.nu) ∧ W'.cell? ⟨w.heap.size, 7, none⟩ = some (.string (sOf m.v)) ∧ W'.cell? ⟨w.heap.size, 8, none⟩ = some (.slice A m.l.length c) ∧ W'.cell? ⟨w.heap.size + 1, 0, none⟩ = some (.int .i64 n.k) ∧ W'.cell? ⟨w.heap.size + 1, 1, none⟩ = some (.int .i64 n.fr) ∧ W'.cell? ⟨w.heap.size + 1, 2, none⟩ = some (.int .i64 n.tt) ∧ W'.cell? ⟨w.heap.size + 1, 3, none⟩ = some (.int .i64 n.ro) ∧ W'.cell? ⟨w.heap.size + 1, 4, none⟩ = some (.int .i64 n.no) ∧ W'.cell? ⟨w.heap.size + 1, 5, none⟩ = some (.int .i64 n.sl) ∧ W'.cell? ⟨w.heap.size + 1, 6, none⟩ = some (.int .i64 n.nu) ∧ W'.cell? ⟨w.heap.size + 1, 7, none⟩ = some (.string (sOf n.v)) ∧ W'.cell? ⟨w.heap.size + 1, 8, none⟩ = some (.slice B n.l.length d) ∧ W'.cell? ⟨W3.heap.size, 0, none⟩ = some (.int .i64 m.k) ∧ W'.cell? ⟨W3.heap.size, 1, none⟩ = some (.int .i64 m.fr) ∧ W'.cell? ⟨W3.heap.size, 2, none⟩ = some (.int .i64 m.tt) ∧ W'.cell? ⟨W3.heap.size, 3, none⟩ = some (.int .i64 m.ro) ∧ W'.cell? ⟨W3.heap.size, 4, none⟩ = some (.int .i64 m.no) ∧ W'.cell? ⟨W3.heap.size, 5, none⟩ = some (.int .i64 m.sl) ∧ W'.cell? ⟨W3.heap.size, 6, none⟩ = some (.int .i64 m.nu) ∧ W'.cell? ⟨W3.heap.size, 7, none⟩ = some (.string (sOf m.v)) ∧ W'.cell? ⟨W3.heap.size, 8, none⟩ = some (.slice A3 m.l.length c3)) W' := by
        intro W' h1 h2 h3
        exact ⟨blkC h1 0, blkC h1 1, blkC h1 2, blkC h1 3, blkC h1 4, blkC h1 5, blkC h1 6, blkC h1 7, blkC h1 8, blkC h2 0, blkC h2 1, blkC h2 2, blkC h2 3, blkC h2 4, blkC h2 5, blkC h2 6, blkC h2 7, blkC h2 8, blkC h3 0, blkC h3 1, blkC h3 2, blkC h3 3, blkC h3 4, blkC h3 5, blkC h3 6, blkC h3 7, blkC h3 8⟩
      replace hSv := Lib.hid hSv
      have hE1 := fun V hx hy => equal_m m n A B c d V hx hy (by have := hI.out.n; omega) (by have := hJ.out.n; omega)
      have hE2 := fun V hx hy => requal_m m n A B c d V hx hy (by have := hI.out.n; omega) (by have := hJ.out.n; omega)
      have hE3 := fun V hx hy => requal_m m m A3 A c3 c V hx hy (by have := hI.out.n; omega) (by have := hI.out.n; omega)
      have hE4 := fun V hx hy => equal_m m m A3 A c3 c V hx hy (by have := hI.out.n; omega) (by have := hI.out.n; omega)
      simp only [show decide (m = m) = true from decide_eq_true rfl] at hE3 hE4
      generalize hdd : decide (m = n) = dd at *
      replace hE1 := Lib.hid hE1; replace hE2 := Lib.hid hE2; replace hE3 := Lib.hid hE3; replace hE4 := Lib.hid hE4; replace hdd := Lib.hid hdd
      have bD : Below W4.heap.size W4 W4.drew := (Below.refl _ W4).drew
      have kx2 := Lib.hid (kx.out.trans (bD.mono kx.out.size))
      have ho2 := Lib.hid (own_keep2 ho.out bD)
      have hBz2 := Lib.hid ((bD.block _ (blkX hBz.out)).trans hBz.out)
      have hBx2 := Lib.hid ((bD.block _ (blkX hBx.out)).trans hBx.out)
      have hBgc2 := Lib.hid ((bD.block _ (blkX hBgc.out)).trans hBgc.out)
      clear kx ho hBz hBx hBgc; have kx := kx2; have ho := ho2; have hBz := hBz2; have hBx := hBx2; have hBgc := hBgc2; clear kx2 ho2 hBz2 hBx2 hBgc2
      clear bD
      refine wp_region_held_drew (S := (fun W' : World => W'.cell? ⟨w.heap.size, 0, none⟩ = some (.int .i64 m.k) ∧ W'.cell? ⟨w.heap.size, 1, none⟩ = some (.int .i64 m.fr) ∧ W'.cell? ⟨w.heap.size, 2, none⟩ = some (.int .i64 m.tt) ∧ W'.cell? ⟨w.heap.size, 3, none⟩ = some (.int .i64 m.ro) ∧ W'.cell? ⟨w.heap.size, 4, none⟩ = some (.int .i64 m.no) ∧ W'.cell? ⟨w.heap.size, 5, none⟩ = some (.int .i64 m.sl) ∧ W'.cell? ⟨w.heap.size, 6, none⟩ = some (.int .i64 m.nu) ∧ W'.cell? ⟨w.heap.size, 7, none⟩ = some (.string (sOf m.v)) ∧ W'.cell? ⟨w.heap.size, 8, none⟩ = some (.slice A m.l.length c) ∧ W'.cell? ⟨w.heap.size + 1, 0, none⟩ = some (.int .i64 n.k) ∧ W'.cell? ⟨w.heap.size + 1, 1, none⟩ = some (.int .i64 n.fr) ∧ W'.cell? ⟨w.heap.size + 1, 2, none⟩ = some (.int .i64 n.tt) ∧ W'.cell? ⟨w.heap.size + 1, 3, none⟩ = some (.int .i64 n.ro) ∧ W'.cell? ⟨w.heap.size + 1, 4, none⟩ = some (.int .i64 n.no) ∧ W'.cell? ⟨w.heap.size + 1, 5, none⟩ = some (.int .i64 n.sl) ∧ W'.cell? ⟨w.heap.size + 1, 6, none⟩ = some (.int .i64 n.nu) ∧ W'.cell? ⟨w.heap.size + 1, 7, none⟩ = some (.string (sOf n.v)) ∧ W'.cell? ⟨w.heap.size + 1, 8, none⟩ = some (.slice B n.l.length d) ∧ W'.cell? ⟨W3.heap.size, 0, none⟩ = some (.int .i64 m.k) ∧ W'.cell? ⟨W3.heap.size, 1, none⟩ = some (.int .i64 m.fr) ∧ W'.cell? ⟨W3.heap.size, 2, none⟩ = some (.int .i64 m.tt) ∧ W'.cell? ⟨W3.heap.size, 3, none⟩ = some (.int .i64 m.ro) ∧ W'.cell? ⟨W3.heap.size, 4, none⟩ = some (.int .i64 m.no) ∧ W'.cell? ⟨W3.heap.size, 5, none⟩ = some (.int .i64 m.sl) ∧ W'.cell? ⟨W3.heap.size, 6, none⟩ = some (.int .i64 m.nu) ∧ W'.cell? ⟨W3.heap.size, 7, none⟩ = some (.string (sOf m.v)) ∧ W'.cell? ⟨W3.heap.size, 8, none⟩ = some (.slice A3 m.l.length c3))) (by kernel_rfl) ?_ (fun hH => ?_)
      · exact hSv.out _ hBz.out hBx.out hBgc.out
      refine wpAnyH_take (i := 0) (v := ?_) rfl (by kernel_rfl) (by kernel_rfl) (by kernel_rfl) (fun _ _ _ h => h) (Or.inl ⟨by rfl, by intro w hSw; obtain ⟨s0, s1, s2, s3, s4, s5, s6, s7, s8, s9, s10, s11, s12, s13, s14, s15, s16, s17, s18, s19, s20, s21, s22, s23, s24, s25, s26⟩ := hSw; go_simp; first | done | with_reducible rfl⟩) hH ?_
      simp only [List.getElem_toArray, List.getElem_cons_succ, List.getElem_cons_zero, Act.put, List.setIfInBounds_toArray, List.set_cons_zero, List.set_cons_succ]
      refine wpAnyH_take (i := 1) (v := ?_) rfl (by kernel_rfl) (by kernel_rfl) (by kernel_rfl) (fun _ _ _ h => h) (Or.inl ⟨by rfl, by intro w hSw; obtain ⟨s0, s1, s2, s3, s4, s5, s6, s7, s8, s9, s10, s11, s12, s13, s14, s15, s16, s17, s18, s19, s20, s21, s22, s23, s24, s25, s26⟩ := hSw; go_simp; first | done | with_reducible rfl⟩) hH ?_
      simp only [List.getElem_toArray, List.getElem_cons_succ, List.getElem_cons_zero, Act.put, List.setIfInBounds_toArray, List.set_cons_zero, List.set_cons_succ]
      refine wpAnyH_take (i := 3) (v := ?_) rfl (by kernel_rfl) (by kernel_rfl) (by kernel_rfl) (fun _ _ _ h => h) (Or.inl ⟨by rfl, by intro w hSw; obtain ⟨s0, s1, s2, s3, s4, s5, s6, s7, s8, s9, s10, s11, s12, s13, s14, s15, s16, s17, s18, s19, s20, s21, s22, s23, s24, s25, s26⟩ := hSw; go_simp; first | done | with_reducible rfl⟩) hH ?_
      simp only [List.getElem_toArray, List.getElem_cons_succ, List.getElem_cons_zero, Act.put, List.setIfInBounds_toArray, List.set_cons_zero, List.set_cons_succ]
      refine wpAnyH_take (i := 4) (v := ?_) rfl (by kernel_rfl) (by kernel_rfl) (by kernel_rfl) (fun _ _ _ h => h) (Or.inl ⟨by rfl, by intro w hSw; obtain ⟨s0, s1, s2, s3, s4, s5, s6, s7, s8, s9, s10, s11, s12, s13, s14, s15, s16, s17, s18, s19, s20, s21, s22, s23, s24, s25, s26⟩ := hSw; go_simp; first | done | with_reducible rfl⟩) hH ?_
      simp only [List.getElem_toArray, List.getElem_cons_succ, List.getElem_cons_zero, Act.put, List.setIfInBounds_toArray, List.set_cons_zero, List.set_cons_succ]
      refine wpAnyH_ready (rs := [2]) (by kernel_rfl) (by simp) ?_
      refine AllReadyH.cons rfl (fun K hK => ?_) ?_
      · clear hH
        go_simp
        refine (hE1.out _ (SL.keep hI.out.es kx.out) (SL.keep hJ.out.es kx.out)).mono ?_
        rintro e V2 ⟨rfl, bV⟩
        have kx2 := Lib.hid (kx.out.trans (bV.mono kx.out.size))
        have ho2 := Lib.hid (own_keep2 ho.out bV)
        have hBz2 := Lib.hid ((bV.block _ (blkX hBz.out)).trans hBz.out)
        have hBx2 := Lib.hid ((bV.block _ (blkX hBx.out)).trans hBx.out)
        have hBgc2 := Lib.hid ((bV.block _ (blkX hBgc.out)).trans hBgc.out)
        clear kx ho hBz hBx hBgc; have kx := kx2; have ho := ho2; have hBz := hBz2; have hBx := hBx2; have hBgc := hBgc2; clear kx2 ho2 hBz2 hBx2 hBgc2
        clear bV
        refine hK.out _ _ (hSv.out _ hBz.out hBx.out hBgc.out) (fun hH => ?_)
        clear hK K
        refine wpAnyH_ready (rs := [5]) (by kernel_rfl) (by simp) ?_
        refine AllReadyH.cons rfl (fun K hK => ?_) ?_
        · clear hH
          go_simp
          refine (hE2.out _ (SL.keep hI.out.es kx.out) (SL.keep hJ.out.es kx.out)).mono ?_
          rintro e V5 ⟨rfl, bV⟩
          have kx2 := Lib.hid (kx.out.trans (bV.mono kx.out.size))
          have ho2 := Lib.hid (own_keep2 ho.out bV)
          have hBz2 := Lib.hid ((bV.block _ (blkX hBz.out)).trans hBz.out)
          have hBx2 := Lib.hid ((bV.block _ (blkX hBx.out)).trans hBx.out)
          have hBgc2 := Lib.hid ((bV.block _ (blkX hBgc.out)).trans hBgc.out)
          clear kx ho hBz hBx hBgc; have kx := kx2; have ho := ho2; have hBz := hBz2; have hBx := hBx2; have hBgc := hBgc2; clear kx2 ho2 hBz2 hBx2 hBgc2
          clear bV
          refine hK.out _ _ (hSv.out _ hBz.out hBx.out hBgc.out) (fun hH => ?_)
          clear hK K
          refine wpAnyH_take (i := 6) (v := ?_) rfl (by kernel_rfl) (by kernel_rfl) (by kernel_rfl) (fun _ _ _ h => h) (Or.inl ⟨by rfl, by intro w hSw; go_simp; first | done | with_reducible rfl⟩) hH ?_
          simp only [List.getElem_toArray, List.getElem_cons_succ, List.getElem_cons_zero, Act.put, List.setIfInBounds_toArray, List.set_cons_zero, List.set_cons_succ]
          refine wpAnyH_take (i := 7) (v := ?_) rfl (by kernel_rfl) (by kernel_rfl) (by kernel_rfl) (fun _ _ _ h => h) (Or.inl ⟨by rfl, by intro w hSw; go_simp; first | done | with_reducible rfl⟩) hH ?_
          simp only [List.getElem_toArray, List.getElem_cons_succ, List.getElem_cons_zero, Act.put, List.setIfInBounds_toArray, List.set_cons_zero, List.set_cons_succ]
          refine wpAnyH_take (i := 8) (v := ?_) rfl (by kernel_rfl) (by kernel_rfl) (by kernel_rfl) (fun _ _ _ h => h) (Or.inl ⟨by rfl, by intro w hSw; obtain ⟨s0, s1, s2, s3, s4, s5, s6, s7, s8, s9, s10, s11, s12, s13, s14, s15, s16, s17, s18, s19, s20, s21, s22, s23, s24, s25, s26⟩ := hSw; go_simp; first | done | with_reducible rfl⟩) hH ?_
          simp only [List.getElem_toArray, List.getElem_cons_succ, List.getElem_cons_zero, Act.put, List.setIfInBounds_toArray, List.set_cons_zero, List.set_cons_succ]
          refine wpAnyH_take (i := 9) (v := ?_) rfl (by kernel_rfl) (by kernel_rfl) (by kernel_rfl) (fun _ _ _ h => h) (Or.inl ⟨by rfl, by intro w hSw; obtain ⟨s0, s1, s2, s3, s4, s5, s6, s7, s8, s9, s10, s11, s12, s13, s14, s15, s16, s17, s18, s19, s20, s21, s22, s23, s24, s25, s26⟩ := hSw; go_simp; first | done | with_reducible rfl⟩) hH ?_
          simp only [List.getElem_toArray, List.getElem_cons_succ, List.getElem_cons_zero, Act.put, List.setIfInBounds_toArray, List.set_cons_zero, List.set_cons_succ]
          refine wpAnyH_ready (rs := [10]) (by kernel_rfl) (by simp) ?_
          refine AllReadyH.cons rfl (fun K hK => ?_) ?_
          · clear hH
            go_simp
            refine (hE3.out _ (SL.of_own encEnt_len ho.out rfl) (SL.keep hI.out.es kx.out)).mono ?_
            rintro e V10 ⟨rfl, bV⟩
            have kx2 := Lib.hid (kx.out.trans (bV.mono kx.out.size))
            have ho2 := Lib.hid (own_keep2 ho.out bV)
            have hBz2 := Lib.hid ((bV.block _ (blkX hBz.out)).trans hBz.out)
            have hBx2 := Lib.hid ((bV.block _ (blkX hBx.out)).trans hBx.out)
            have hBgc2 := Lib.hid ((bV.block _ (blkX hBgc.out)).trans hBgc.out)
            clear kx ho hBz hBx hBgc; have kx := kx2; have ho := ho2; have hBz := hBz2; have hBx := hBx2; have hBgc := hBgc2; clear kx2 ho2 hBz2 hBx2 hBgc2
            clear bV
            refine hK.out _ _ (hSv.out _ hBz.out hBx.out hBgc.out) (fun hH => ?_)
            clear hK K
            refine wpAnyH_take (i := 11) (v := ?_) rfl (by kernel_rfl) (by kernel_rfl) (by kernel_rfl) (fun _ _ _ h => h) (Or.inl ⟨by rfl, by intro w hSw; go_simp; first | done | with_reducible rfl⟩) hH ?_
            simp only [List.getElem_toArray, List.getElem_cons_succ, List.getElem_cons_zero, Act.put, List.setIfInBounds_toArray, List.set_cons_zero, List.set_cons_succ]
            refine wpAnyH_take (i := 12) (v := ?_) rfl (by kernel_rfl) (by kernel_rfl) (by kernel_rfl) (fun _ _ _ h => h) (Or.inl ⟨by rfl, by intro w hSw; go_simp; first | done | with_reducible rfl⟩) hH ?_
            simp only [List.getElem_toArray, List.getElem_cons_succ, List.getElem_cons_zero, Act.put, List.setIfInBounds_toArray, List.set_cons_zero, List.set_cons_succ]
            refine wpAnyH_take (i := 13) (v := ?_) rfl (by kernel_rfl) (by kernel_rfl) (by kernel_rfl) (fun _ _ _ h => h) (Or.inl ⟨by rfl, by intro w hSw; go_simp; first | done | with_reducible rfl⟩) hH ?_
            simp only [List.getElem_toArray, List.getElem_cons_succ, List.getElem_cons_zero, Act.put, List.setIfInBounds_toArray, List.set_cons_zero, List.set_cons_succ]
            refine wpAnyH_take (i := 14) (v := ?_) rfl (by kernel_rfl) (by kernel_rfl) (by kernel_rfl) (fun _ _ _ h => h) (Or.inl ⟨by rfl, by intro w hSw; obtain ⟨s0, s1, s2, s3, s4, s5, s6, s7, s8, s9, s10, s11, s12, s13, s14, s15, s16, s17, s18, s19, s20, s21, s22, s23, s24, s25, s26⟩ := hSw; go_simp; first | done | with_reducible rfl⟩) hH ?_
            simp only [List.getElem_toArray, List.getElem_cons_succ, List.getElem_cons_zero, Act.put, List.setIfInBounds_toArray, List.set_cons_zero, List.set_cons_succ]
            refine wpAnyH_take (i := 15) (v := ?_) rfl (by kernel_rfl) (by kernel_rfl) (by kernel_rfl) (fun _ _ _ h => h) (Or.inl ⟨by rfl, by intro w hSw; obtain ⟨s0, s1, s2, s3, s4, s5, s6, s7, s8, s9, s10, s11, s12, s13, s14, s15, s16, s17, s18, s19, s20, s21, s22, s23, s24, s25, s26⟩ := hSw; go_simp; first | done | with_reducible rfl⟩) hH ?_
            simp only [List.getElem_toArray, List.getElem_cons_succ, List.getElem_cons_zero, Act.put, List.setIfInBounds_toArray, List.set_cons_zero, List.set_cons_succ]
            refine wpAnyH_ready (rs := [16]) (by kernel_rfl) (by simp) ?_
            refine AllReadyH.cons rfl (fun K hK => ?_) ?_
            · clear hH
              go_simp
              refine (hE4.out _ (SL.of_own encEnt_len ho.out rfl) (SL.keep hI.out.es kx.out)).mono ?_
              rintro e V16 ⟨rfl, bV⟩
              have kx2 := Lib.hid (kx.out.trans (bV.mono kx.out.size))
              have ho2 := Lib.hid (own_keep2 ho.out bV)
              have hBz2 := Lib.hid ((bV.block _ (blkX hBz.out)).trans hBz.out)
              have hBx2 := Lib.hid ((bV.block _ (blkX hBx.out)).trans hBx.out)
              have hBgc2 := Lib.hid ((bV.block _ (blkX hBgc.out)).trans hBgc.out)
              clear kx ho hBz hBx hBgc; have kx := kx2; have ho := ho2; have hBz := hBz2; have hBx := hBx2; have hBgc := hBgc2; clear kx2 ho2 hBz2 hBx2 hBgc2
              clear bV
              refine hK.out _ _ (hSv.out _ hBz.out hBx.out hBgc.out) (fun hH => ?_)
              clear hK K
              refine wpAnyH_take (i := 17) (v := ?_) rfl (by kernel_rfl) (by kernel_rfl) (by kernel_rfl) (fun _ _ _ h => h) (Or.inl ⟨by rfl, by intro w hSw; go_simp; first | done | with_reducible rfl⟩) hH ?_
              simp only [List.getElem_toArray, List.getElem_cons_succ, List.getElem_cons_zero, Act.put, List.setIfInBounds_toArray, List.set_cons_zero, List.set_cons_succ]
              refine wpAnyH_take (i := 18) (v := ?_) rfl (by kernel_rfl) (by kernel_rfl) (by kernel_rfl) (fun _ _ _ h => h) (Or.inl ⟨by rfl, by intro w hSw; go_simp; first | done | with_reducible rfl⟩) hH ?_
              simp only [List.getElem_toArray, List.getElem_cons_succ, List.getElem_cons_zero, Act.put, List.setIfInBounds_toArray, List.set_cons_zero, List.set_cons_succ]
              refine wpAnyH_done (by kernel_rfl) ?_ _
              clear hH hSv hE1 hE2 hE3 hE4
              have z0 : V16.cell? ⟨w.heap.size, 0, none⟩ = some (.int .i64 m.k) := blkC hBz.out 0
              have z1 : V16.cell? ⟨w.heap.size, 1, none⟩ = some (.int .i64 m.fr) := blkC hBz.out 1
              have z2 : V16.cell? ⟨w.heap.size, 2, none⟩ = some (.int .i64 m.tt) := blkC hBz.out 2
              have z3 : V16.cell? ⟨w.heap.size, 3, none⟩ = some (.int .i64 m.ro) := blkC hBz.out 3
              have z4 : V16.cell? ⟨w.heap.size, 4, none⟩ = some (.int .i64 m.no) := blkC hBz.out 4
              have z5 : V16.cell? ⟨w.heap.size, 5, none⟩ = some (.int .i64 m.sl) := blkC hBz.out 5
              have z6 : V16.cell? ⟨w.heap.size, 6, none⟩ = some (.int .i64 m.nu) := blkC hBz.out 6
              have z7 : V16.cell? ⟨w.heap.size, 7, none⟩ = some (.string (sOf m.v)) := blkC hBz.out 7
              have z8 : V16.cell? ⟨w.heap.size, 8, none⟩ = some (.slice A m.l.length c) := blkC hBz.out 8
              have lz := blkX hBz.out
              have x0 : V16.cell? ⟨w.heap.size + 1, 0, none⟩ = some (.int .i64 n.k) := blkC hBx.out 0
              have x1 : V16.cell? ⟨w.heap.size + 1, 1, none⟩ = some (.int .i64 n.fr) := blkC hBx.out 1
              have x2 : V16.cell? ⟨w.heap.size + 1, 2, none⟩ = some (.int .i64 n.tt) := blkC hBx.out 2
              have x3 : V16.cell? ⟨w.heap.size + 1, 3, none⟩ = some (.int .i64 n.ro) := blkC hBx.out 3
              have x4 : V16.cell? ⟨w.heap.size + 1, 4, none⟩ = some (.int .i64 n.no) := blkC hBx.out 4
              have x5 : V16.cell? ⟨w.heap.size + 1, 5, none⟩ = some (.int .i64 n.sl) := blkC hBx.out 5
              have x6 : V16.cell? ⟨w.heap.size + 1, 6, none⟩ = some (.int .i64 n.nu) := blkC hBx.out 6
              have x7 : V16.cell? ⟨w.heap.size + 1, 7, none⟩ = some (.string (sOf n.v)) := blkC hBx.out 7
              have x8 : V16.cell? ⟨w.heap.size + 1, 8, none⟩ = some (.slice B n.l.length d) := blkC hBx.out 8
              have lx := blkX hBx.out
              have gc0 : V16.cell? ⟨W3.heap.size, 0, none⟩ = some (.int .i64 m.k) := blkC hBgc.out 0
              have gc1 : V16.cell? ⟨W3.heap.size, 1, none⟩ = some (.int .i64 m.fr) := blkC hBgc.out 1
              have gc2 : V16.cell? ⟨W3.heap.size, 2, none⟩ = some (.int .i64 m.tt) := blkC hBgc.out 2
              have gc3 : V16.cell? ⟨W3.heap.size, 3, none⟩ = some (.int .i64 m.ro) := blkC hBgc.out 3
              have gc4 : V16.cell? ⟨W3.heap.size, 4, none⟩ = some (.int .i64 m.no) := blkC hBgc.out 4
              have gc5 : V16.cell? ⟨W3.heap.size, 5, none⟩ = some (.int .i64 m.sl) := blkC hBgc.out 5
              have gc6 : V16.cell? ⟨W3.heap.size, 6, none⟩ = some (.int .i64 m.nu) := blkC hBgc.out 6
              have gc7 : V16.cell? ⟨W3.heap.size, 7, none⟩ = some (.string (sOf m.v)) := blkC hBgc.out 7
              have gc8 : V16.cell? ⟨W3.heap.size, 8, none⟩ = some (.slice A3 m.l.length c3) := blkC hBgc.out 8
              have lgc := blkX hBgc.out
              go_wp2_with (fail)
              refine (rcopy_any m A c _ (hI.out.keep kx.out)).mono ?_
              rintro e W41 ⟨A5, c5, rfl, ho5, b5⟩
              have kx41 := Lib.hid (kx.out.trans (b5.mono kx.out.size))
              have hBz_41 := Lib.hid ((b5.block _ (blkX hBz.out)).trans hBz.out)
              have hBx_41 := Lib.hid ((b5.block _ (blkX hBx.out)).trans hBx.out)
              have hBgc_41 := Lib.hid ((b5.block _ (blkX hBgc.out)).trans hBgc.out)
              have ho2 := Lib.hid (own_keep2 ho.out b5)
              have h35 : ∀ k, rowOf A5 = some k → rowOf A3 ≠ some k := fun k e5 e3 => by have h5 := (own_row ho5 k e5).1; have h3 := (own_row ho.out k e3).2; omega
              replace h35 := Lib.hid h35
              clear ho; have ho := ho2; clear ho2
              replace ho5 := Lib.hid (ho5.mono (base' := w.heap.size) kx.out.size)
              clear z0 z1 z2 z3 z4 z5 z6 z7 z8 lz x0 x1 x2 x3 x4 x5 x6 x7 x8 lx gc0 gc1 gc2 gc3 gc4 gc5 gc6 gc7 gc8 lgc 
              clear b5 kx; have kx := kx41; clear kx41
              clear hBz; have hBz := hBz_41; clear hBz_41
              clear hBx; have hBx := hBx_41; clear hBx_41
              clear hBgc; have hBgc := hBgc_41; clear hBgc_41
              have z0 : W41.cell? ⟨w.heap.size, 0, none⟩ = some (.int .i64 m.k) := blkC hBz.out 0
              have z1 : W41.cell? ⟨w.heap.size, 1, none⟩ = some (.int .i64 m.fr) := blkC hBz.out 1
              have z2 : W41.cell? ⟨w.heap.size, 2, none⟩ = some (.int .i64 m.tt) := blkC hBz.out 2
              have z3 : W41.cell? ⟨w.heap.size, 3, none⟩ = some (.int .i64 m.ro) := blkC hBz.out 3
              have z4 : W41.cell? ⟨w.heap.size, 4, none⟩ = some (.int .i64 m.no) := blkC hBz.out 4
              have z5 : W41.cell? ⟨w.heap.size, 5, none⟩ = some (.int .i64 m.sl) := blkC hBz.out 5
              have z6 : W41.cell? ⟨w.heap.size, 6, none⟩ = some (.int .i64 m.nu) := blkC hBz.out 6
              have z7 : W41.cell? ⟨w.heap.size, 7, none⟩ = some (.string (sOf m.v)) := blkC hBz.out 7
              have z8 : W41.cell? ⟨w.heap.size, 8, none⟩ = some (.slice A m.l.length c) := blkC hBz.out 8
              have lz := blkX hBz.out
              have x0 : W41.cell? ⟨w.heap.size + 1, 0, none⟩ = some (.int .i64 n.k) := blkC hBx.out 0
              have x1 : W41.cell? ⟨w.heap.size + 1, 1, none⟩ = some (.int .i64 n.fr) := blkC hBx.out 1
              have x2 : W41.cell? ⟨w.heap.size + 1, 2, none⟩ = some (.int .i64 n.tt) := blkC hBx.out 2
              have x3 : W41.cell? ⟨w.heap.size + 1, 3, none⟩ = some (.int .i64 n.ro) := blkC hBx.out 3
              have x4 : W41.cell? ⟨w.heap.size + 1, 4, none⟩ = some (.int .i64 n.no) := blkC hBx.out 4
              have x5 : W41.cell? ⟨w.heap.size + 1, 5, none⟩ = some (.int .i64 n.sl) := blkC hBx.out 5
              have x6 : W41.cell? ⟨w.heap.size + 1, 6, none⟩ = some (.int .i64 n.nu) := blkC hBx.out 6
              have x7 : W41.cell? ⟨w.heap.size + 1, 7, none⟩ = some (.string (sOf n.v)) := blkC hBx.out 7
              have x8 : W41.cell? ⟨w.heap.size + 1, 8, none⟩ = some (.slice B n.l.length d) := blkC hBx.out 8
              have lx := blkX hBx.out
              have gc0 : W41.cell? ⟨W3.heap.size, 0, none⟩ = some (.int .i64 m.k) := blkC hBgc.out 0
              have gc1 : W41.cell? ⟨W3.heap.size, 1, none⟩ = some (.int .i64 m.fr) := blkC hBgc.out 1
              have gc2 : W41.cell? ⟨W3.heap.size, 2, none⟩ = some (.int .i64 m.tt) := blkC hBgc.out 2
              have gc3 : W41.cell? ⟨W3.heap.size, 3, none⟩ = some (.int .i64 m.ro) := blkC hBgc.out 3
              have gc4 : W41.cell? ⟨W3.heap.size, 4, none⟩ = some (.int .i64 m.no) := blkC hBgc.out 4
              have gc5 : W41.cell? ⟨W3.heap.size, 5, none⟩ = some (.int .i64 m.sl) := blkC hBgc.out 5
              have gc6 : W41.cell? ⟨W3.heap.size, 6, none⟩ = some (.int .i64 m.nu) := blkC hBgc.out 6
              have gc7 : W41.cell? ⟨W3.heap.size, 7, none⟩ = some (.string (sOf m.v)) := blkC hBgc.out 7
              have gc8 : W41.cell? ⟨W3.heap.size, 8, none⟩ = some (.slice A3 m.l.length c3) := blkC hBgc.out 8
              have lgc := blkX hBgc.out
              obtain ⟨W42, hW42⟩ : ∃ W', W' = W41.alloc (.cells #[.int .i64 m.k, .int .i64 m.fr, .int .i64 m.tt, .int .i64 m.ro, .int .i64 m.no, .int .i64 m.sl, .int .i64 m.nu, .string (sOf m.v), .slice A5 m.l.length c5] 28) := ⟨_, rfl⟩
              have bb : Below W41.heap.size W41 W42 := by rw [hW42]; exact (Below.refl _ W41).alloc (Nat.le_refl _) _
              have hBgy := Lib.hid (show W42.heap[W41.heap.size]? = some (.cells #[.int .i64 m.k, .int .i64 m.fr, .int .i64 m.tt, .int .i64 m.ro, .int .i64 m.no, .int .i64 m.sl, .int .i64 m.nu, .string (sOf m.v), .slice A5 m.l.length c5] 28 (0, 0)) from by rw [hW42]; exact hpNew W41 _)
              have kx42 := Lib.hid (kx.out.trans (bb.mono kx.out.size))
              have hBz_42 := Lib.hid ((bb.block _ (blkX hBz.out)).trans hBz.out)
              have hBx_42 := Lib.hid ((bb.block _ (blkX hBx.out)).trans hBx.out)
              have hBgc_42 := Lib.hid ((bb.block _ (blkX hBgc.out)).trans hBgc.out)
              have ho2 := Lib.hid (own_keep2 ho.out bb)
              clear ho; have ho := ho2; clear ho2
              have ho2 := Lib.hid (own_keep2 ho5.out bb)
              clear ho5; have ho5 := ho2; clear ho2
              clear bb kx; have kx := kx42; clear kx42
              clear hBz; have hBz := hBz_42; clear hBz_42
              clear hBx; have hBx := hBx_42; clear hBx_42
              clear hBgc; have hBgc := hBgc_42; clear hBgc_42
              go_wp2_with (fail)
              rw [← hW42]
              replace hW42 := Lib.hid hW42
              obtain ⟨nl, hnl⟩ : ∃ nl, m.l.length = nl := ⟨_, rfl⟩
              have hnb : nl ≤ 3518437208883 := by have := hI.out.n; omega
              go_loopw [7] (fun i wr => ∃ (j : Nat) (l1 : List Ent), j ≤ nl ∧ i = .int .i64 j ∧ l1.length = nl ∧ Chg (fun k => rowOf A3 = some k) W42 wr ∧ wr.ownsRow w.heap.size 45 4 (.slice A3 nl c3) nl (flat encEnt l1)) (fun i _ => nl - (intOf i).toNat)
              case atStart => exact ⟨0, m.l, by omega, rfl, hnl, Chg.refl _ _, by have := ho.out; rw [hnl] at this; exact this⟩
              case round =>
                revert wr
                intro Y hrel
                obtain ⟨j, l1, hj, rfl, hl1, hch, hown⟩ := hrel
                skip
                have nz : ¬ rowOf A3 = some (w.heap.size) := fun e => own_ty ho.out hBz.out (show 28 ≠ 45 from by decide) _ e rfl
                have hz1 := Lib.hid ((hch.block _ (blkX hBz.out) nz).trans hBz.out)
                have nx : ¬ rowOf A3 = some (w.heap.size + 1) := fun e => own_ty ho.out hBx.out (show 28 ≠ 45 from by decide) _ e rfl
                have hx1 := Lib.hid ((hch.block _ (blkX hBx.out) nx).trans hBx.out)
                have ngc : ¬ rowOf A3 = some (W3.heap.size) := fun e => own_ty ho.out hBgc.out (show 28 ≠ 45 from by decide) _ e rfl
                have hgc1 := Lib.hid ((hch.block _ (blkX hBgc.out) ngc).trans hBgc.out)
                have ngy : ¬ rowOf A3 = some (W41.heap.size) := fun e => own_ty ho.out hBgy.out (show 28 ≠ 45 from by decide) _ e rfl
                have hgy1 := Lib.hid ((hch.block _ (blkX hBgy.out) ngy).trans hBgy.out)
                have hk1 := Lib.hid (hch.belowAfter kx.out kx.out.size (fun k hk e => by have := (own_row ho.out k e).1; omega))
                have ho51 := Lib.hid (own_stay ho5.out fun k hk => hch.block k (own_row ho5.out k hk).2 (h35.out k hk))
                clear nz nx ngc ngy
                have c8 : Y.cell? ⟨W3.heap.size, 8, none⟩ = some (.slice A3 nl c3) := by rw [← hnl]; exact blkC hgc1.out 8
                by_cases hlt : j < nl
                · obtain ⟨gb, cp, e3⟩ : ∃ gb cp, (Value.slice A3 nl c3) = .slice (some ⟨gb, 0, none⟩) nl cp := by
                    rcases hown.2 with ⟨e, e2⟩ | ⟨k, cp, cur, e, _⟩
                    · omega
                    · exact ⟨k, cp, e⟩
                  injection e3 with e3 e4
                  subst e3
                  obtain ⟨x, hx⟩ : ∃ x, l1[j]? = some x := ⟨_, List.getElem?_eq_getElem (by omega)⟩
                  obtain ⟨b, o, x2, e5, hbl, hx2, c0, -, -, -⟩ := ES.at_ (SL.of_own encEnt_len hown hl1) hlt
                  injection e5 with e5
                  injection e5 with e5 e6
                  subst e5 e6
                  obtain rfl : x2 = x := by rw [hx] at hx2; exact (Option.some.inj hx2).symm
                  simp only [Nat.zero_add] at c0
                  have fz := hown.frozenAt (j * 4)
                  obtain ⟨ho9, hg9⟩ := hown.stored (j * 4) (.int .i64 (wrap64 (x2.sl - 1)))
                  rw [← flat_set0 (wrap64 (x2.sl - 1)) l1 j x2 hx] at ho9
                  have hch9 := hch.trans (Chg.of_grown (S := fun k => rowOf (some ⟨gb, 0, none⟩) = some k) hg9 (fun k e => e)) (fun _ _ q => q)
                  have j0 : (0 : Int) ≤ j := by omega
                  have j1 : (j : Int) < (nl : Int) := by omega
                  replace hch := Lib.hid hch; replace hown := Lib.hid hown; replace ho9 := Lib.hid ho9; replace hch9 := Lib.hid hch9; replace hl1 := Lib.hid hl1; replace hnl := Lib.hid hnl; replace hx := Lib.hid hx; replace hx2 := Lib.hid hx2; replace hg9 := Lib.hid hg9; replace e4 := Lib.hid e4
                  go_wp2_with (fail)
                  exact ⟨⟨j + 1, _, by omega, by go_num, by simpa using hl1.out, hch9.out, ho9.out⟩, by simp [intOf]; omega⟩
                · have hjn : ¬ (j : Int) < (nl : Int) := by omega
                  clear hBz hBx hBgc hBgy kx ho ho5; have hBz := hz1; have hBx := hx1; have hBgc := hgc1; have hBgy := hgy1; have kx := hk1; have ho5 := ho51; clear hz1 hx1 hgc1 hgy1 hk1 ho51
                  clear hch hown hl1 c8
                  have hI2 := Lib.hid (hI.out.keep kx.out)
                  have c8 : Y.cell? ⟨W3.heap.size, 8, none⟩ = some (.slice A3 nl c3) := by rw [← hnl]; exact blkC hBgc.out 8
                  replace hnl := Lib.hid hnl
                  have z0 : Y.cell? ⟨w.heap.size, 0, none⟩ = some (.int .i64 m.k) := blkC hBz.out 0
                  have z1 : Y.cell? ⟨w.heap.size, 1, none⟩ = some (.int .i64 m.fr) := blkC hBz.out 1
                  have z2 : Y.cell? ⟨w.heap.size, 2, none⟩ = some (.int .i64 m.tt) := blkC hBz.out 2
                  have z3 : Y.cell? ⟨w.heap.size, 3, none⟩ = some (.int .i64 m.ro) := blkC hBz.out 3
                  have z4 : Y.cell? ⟨w.heap.size, 4, none⟩ = some (.int .i64 m.no) := blkC hBz.out 4
                  have z5 : Y.cell? ⟨w.heap.size, 5, none⟩ = some (.int .i64 m.sl) := blkC hBz.out 5
                  have z6 : Y.cell? ⟨w.heap.size, 6, none⟩ = some (.int .i64 m.nu) := blkC hBz.out 6
                  have z7 : Y.cell? ⟨w.heap.size, 7, none⟩ = some (.string (sOf m.v)) := blkC hBz.out 7
                  have z8 : Y.cell? ⟨w.heap.size, 8, none⟩ = some (.slice A m.l.length c) := blkC hBz.out 8
                  have lz := blkX hBz.out
                  have x0 : Y.cell? ⟨w.heap.size + 1, 0, none⟩ = some (.int .i64 n.k) := blkC hBx.out 0
                  have x1 : Y.cell? ⟨w.heap.size + 1, 1, none⟩ = some (.int .i64 n.fr) := blkC hBx.out 1
                  have x2 : Y.cell? ⟨w.heap.size + 1, 2, none⟩ = some (.int .i64 n.tt) := blkC hBx.out 2
                  have x3 : Y.cell? ⟨w.heap.size + 1, 3, none⟩ = some (.int .i64 n.ro) := blkC hBx.out 3
                  have x4 : Y.cell? ⟨w.heap.size + 1, 4, none⟩ = some (.int .i64 n.no) := blkC hBx.out 4
                  have x5 : Y.cell? ⟨w.heap.size + 1, 5, none⟩ = some (.int .i64 n.sl) := blkC hBx.out 5
                  have x6 : Y.cell? ⟨w.heap.size + 1, 6, none⟩ = some (.int .i64 n.nu) := blkC hBx.out 6
                  have x7 : Y.cell? ⟨w.heap.size + 1, 7, none⟩ = some (.string (sOf n.v)) := blkC hBx.out 7
                  have x8 : Y.cell? ⟨w.heap.size + 1, 8, none⟩ = some (.slice B n.l.length d) := blkC hBx.out 8
                  have lx := blkX hBx.out
                  have gc0 : Y.cell? ⟨W3.heap.size, 0, none⟩ = some (.int .i64 m.k) := blkC hBgc.out 0
                  have gc1 : Y.cell? ⟨W3.heap.size, 1, none⟩ = some (.int .i64 m.fr) := blkC hBgc.out 1
                  have gc2 : Y.cell? ⟨W3.heap.size, 2, none⟩ = some (.int .i64 m.tt) := blkC hBgc.out 2
                  have gc3 : Y.cell? ⟨W3.heap.size, 3, none⟩ = some (.int .i64 m.ro) := blkC hBgc.out 3
                  have gc4 : Y.cell? ⟨W3.heap.size, 4, none⟩ = some (.int .i64 m.no) := blkC hBgc.out 4
                  have gc5 : Y.cell? ⟨W3.heap.size, 5, none⟩ = some (.int .i64 m.sl) := blkC hBgc.out 5
                  have gc6 : Y.cell? ⟨W3.heap.size, 6, none⟩ = some (.int .i64 m.nu) := blkC hBgc.out 6
                  have gc7 : Y.cell? ⟨W3.heap.size, 7, none⟩ = some (.string (sOf m.v)) := blkC hBgc.out 7
                  have gc8 : Y.cell? ⟨W3.heap.size, 8, none⟩ = some (.slice A3 m.l.length c3) := blkC hBgc.out 8
                  have lgc := blkX hBgc.out
                  have gy0 : Y.cell? ⟨W41.heap.size, 0, none⟩ = some (.int .i64 m.k) := blkC hBgy.out 0
                  have gy1 : Y.cell? ⟨W41.heap.size, 1, none⟩ = some (.int .i64 m.fr) := blkC hBgy.out 1
                  have gy2 : Y.cell? ⟨W41.heap.size, 2, none⟩ = some (.int .i64 m.tt) := blkC hBgy.out 2
                  have gy3 : Y.cell? ⟨W41.heap.size, 3, none⟩ = some (.int .i64 m.ro) := blkC hBgy.out 3
                  have gy4 : Y.cell? ⟨W41.heap.size, 4, none⟩ = some (.int .i64 m.no) := blkC hBgy.out 4
                  have gy5 : Y.cell? ⟨W41.heap.size, 5, none⟩ = some (.int .i64 m.sl) := blkC hBgy.out 5
                  have gy6 : Y.cell? ⟨W41.heap.size, 6, none⟩ = some (.int .i64 m.nu) := blkC hBgy.out 6
                  have gy7 : Y.cell? ⟨W41.heap.size, 7, none⟩ = some (.string (sOf m.v)) := blkC hBgy.out 7
                  have gy8 : Y.cell? ⟨W41.heap.size, 8, none⟩ = some (.slice A5 m.l.length c5) := blkC hBgy.out 8
                  have lgy := blkX hBgy.out
                  go_wp2_with (fail)
                  refine (requal_m m m A A5 c c5 _ (SL.keep hI.out.es kx.out) (SL.of_own encEnt_len ho5.out rfl) (by have := hI.out.n; omega) (by have := hI.out.n; omega)).mono ?_
                  rintro e W71 ⟨rfl, b5⟩
                  have kx71 := Lib.hid (kx.out.trans (b5.mono kx.out.size))
                  have hBz_71 := Lib.hid ((b5.block _ (blkX hBz.out)).trans hBz.out)
                  have hBx_71 := Lib.hid ((b5.block _ (blkX hBx.out)).trans hBx.out)
                  have hBgc_71 := Lib.hid ((b5.block _ (blkX hBgc.out)).trans hBgc.out)
                  have hBgy_71 := Lib.hid ((b5.block _ (blkX hBgy.out)).trans hBgy.out)
                  clear z0 z1 z2 z3 z4 z5 z6 z7 z8 lz x0 x1 x2 x3 x4 x5 x6 x7 x8 lx gc0 gc1 gc2 gc3 gc4 gc5 gc6 gc7 gc8 lgc gy0 gy1 gy2 gy3 gy4 gy5 gy6 gy7 gy8 lgy c8
                  clear b5 kx; have kx := kx71; clear kx71
                  clear hBz; have hBz := hBz_71; clear hBz_71
                  clear hBx; have hBx := hBx_71; clear hBx_71
                  clear hBgc; have hBgc := hBgc_71; clear hBgc_71
                  clear hBgy; have hBgy := hBgy_71; clear hBgy_71
                  rw [show decide (m = m) = true from decide_eq_true rfl]
                  have z0 : W71.cell? ⟨w.heap.size, 0, none⟩ = some (.int .i64 m.k) := blkC hBz.out 0
                  have z1 : W71.cell? ⟨w.heap.size, 1, none⟩ = some (.int .i64 m.fr) := blkC hBz.out 1
                  have z2 : W71.cell? ⟨w.heap.size, 2, none⟩ = some (.int .i64 m.tt) := blkC hBz.out 2
                  have z3 : W71.cell? ⟨w.heap.size, 3, none⟩ = some (.int .i64 m.ro) := blkC hBz.out 3
                  have z4 : W71.cell? ⟨w.heap.size, 4, none⟩ = some (.int .i64 m.no) := blkC hBz.out 4
                  have z5 : W71.cell? ⟨w.heap.size, 5, none⟩ = some (.int .i64 m.sl) := blkC hBz.out 5
                  have z6 : W71.cell? ⟨w.heap.size, 6, none⟩ = some (.int .i64 m.nu) := blkC hBz.out 6
                  have z7 : W71.cell? ⟨w.heap.size, 7, none⟩ = some (.string (sOf m.v)) := blkC hBz.out 7
                  have z8 : W71.cell? ⟨w.heap.size, 8, none⟩ = some (.slice A m.l.length c) := blkC hBz.out 8
                  have lz := blkX hBz.out
                  have x0 : W71.cell? ⟨w.heap.size + 1, 0, none⟩ = some (.int .i64 n.k) := blkC hBx.out 0
                  have x1 : W71.cell? ⟨w.heap.size + 1, 1, none⟩ = some (.int .i64 n.fr) := blkC hBx.out 1
                  have x2 : W71.cell? ⟨w.heap.size + 1, 2, none⟩ = some (.int .i64 n.tt) := blkC hBx.out 2
                  have x3 : W71.cell? ⟨w.heap.size + 1, 3, none⟩ = some (.int .i64 n.ro) := blkC hBx.out 3
                  have x4 : W71.cell? ⟨w.heap.size + 1, 4, none⟩ = some (.int .i64 n.no) := blkC hBx.out 4
                  have x5 : W71.cell? ⟨w.heap.size + 1, 5, none⟩ = some (.int .i64 n.sl) := blkC hBx.out 5
                  have x6 : W71.cell? ⟨w.heap.size + 1, 6, none⟩ = some (.int .i64 n.nu) := blkC hBx.out 6
                  have x7 : W71.cell? ⟨w.heap.size + 1, 7, none⟩ = some (.string (sOf n.v)) := blkC hBx.out 7
                  have x8 : W71.cell? ⟨w.heap.size + 1, 8, none⟩ = some (.slice B n.l.length d) := blkC hBx.out 8
                  have lx := blkX hBx.out
                  have gc0 : W71.cell? ⟨W3.heap.size, 0, none⟩ = some (.int .i64 m.k) := blkC hBgc.out 0
                  have gc1 : W71.cell? ⟨W3.heap.size, 1, none⟩ = some (.int .i64 m.fr) := blkC hBgc.out 1
                  have gc2 : W71.cell? ⟨W3.heap.size, 2, none⟩ = some (.int .i64 m.tt) := blkC hBgc.out 2
                  have gc3 : W71.cell? ⟨W3.heap.size, 3, none⟩ = some (.int .i64 m.ro) := blkC hBgc.out 3
                  have gc4 : W71.cell? ⟨W3.heap.size, 4, none⟩ = some (.int .i64 m.no) := blkC hBgc.out 4
                  have gc5 : W71.cell? ⟨W3.heap.size, 5, none⟩ = some (.int .i64 m.sl) := blkC hBgc.out 5
                  have gc6 : W71.cell? ⟨W3.heap.size, 6, none⟩ = some (.int .i64 m.nu) := blkC hBgc.out 6
                  have gc7 : W71.cell? ⟨W3.heap.size, 7, none⟩ = some (.string (sOf m.v)) := blkC hBgc.out 7
                  have gc8 : W71.cell? ⟨W3.heap.size, 8, none⟩ = some (.slice A3 m.l.length c3) := blkC hBgc.out 8
                  have lgc := blkX hBgc.out
                  have gy0 : W71.cell? ⟨W41.heap.size, 0, none⟩ = some (.int .i64 m.k) := blkC hBgy.out 0
                  have gy1 : W71.cell? ⟨W41.heap.size, 1, none⟩ = some (.int .i64 m.fr) := blkC hBgy.out 1
                  have gy2 : W71.cell? ⟨W41.heap.size, 2, none⟩ = some (.int .i64 m.tt) := blkC hBgy.out 2
                  have gy3 : W71.cell? ⟨W41.heap.size, 3, none⟩ = some (.int .i64 m.ro) := blkC hBgy.out 3
                  have gy4 : W71.cell? ⟨W41.heap.size, 4, none⟩ = some (.int .i64 m.no) := blkC hBgy.out 4
                  have gy5 : W71.cell? ⟨W41.heap.size, 5, none⟩ = some (.int .i64 m.sl) := blkC hBgy.out 5
                  have gy6 : W71.cell? ⟨W41.heap.size, 6, none⟩ = some (.int .i64 m.nu) := blkC hBgy.out 6
                  have gy7 : W71.cell? ⟨W41.heap.size, 7, none⟩ = some (.string (sOf m.v)) := blkC hBgy.out 7
                  have gy8 : W71.cell? ⟨W41.heap.size, 8, none⟩ = some (.slice A5 m.l.length c5) := blkC hBgy.out 8
                  have lgy := blkX hBgy.out
                  go_wp2_with (fail)
                  refine (works_any _ (hL.out.keep kx.out)).mono ?_
                  rintro e W72 ⟨rfl, bv⟩
                  have kx72 := Lib.hid (kx.out.trans (bv.mono kx.out.size))
                  have hBz_72 := Lib.hid ((bv.block _ (blkX hBz.out)).trans hBz.out)
                  have hBx_72 := Lib.hid ((bv.block _ (blkX hBx.out)).trans hBx.out)
                  have hBgc_72 := Lib.hid ((bv.block _ (blkX hBgc.out)).trans hBgc.out)
                  have hBgy_72 := Lib.hid ((bv.block _ (blkX hBgy.out)).trans hBgy.out)
                  clear z0 z1 z2 z3 z4 z5 z6 z7 z8 lz x0 x1 x2 x3 x4 x5 x6 x7 x8 lx gc0 gc1 gc2 gc3 gc4 gc5 gc6 gc7 gc8 lgc gy0 gy1 gy2 gy3 gy4 gy5 gy6 gy7 gy8 lgy 
                  clear bv kx; have kx := kx72; clear kx72
                  clear hBz; have hBz := hBz_72; clear hBz_72
                  clear hBx; have hBx := hBx_72; clear hBx_72
                  clear hBgc; have hBgc := hBgc_72; clear hBgc_72
                  clear hBgy; have hBgy := hBgy_72; clear hBgy_72
                  go_wp2_with (fail)
                  go_ret
                  exact ⟨rfl, kx.out⟩
            exact AllReadyH.nil
          exact AllReadyH.nil
        exact AllReadyH.nil
      exact AllReadyH.nil
end Go.Proofs.YtlinjanflenljaaGreatDoor
