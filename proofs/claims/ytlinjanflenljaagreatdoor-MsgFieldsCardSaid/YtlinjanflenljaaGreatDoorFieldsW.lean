/- Fields that are not used: the walk. -/
import Derived.Test.YtlinjanflenljaaGreatDoorCutsW
import Derived.Test.YtlinjanflenljaaGreatDoorCopyM
import Derived.Test.YtlinjanflenljaaGreatDoorRM
import Derived.Test.YtlinjanflenljaaGreatDoorOrdd
namespace Go.Proofs.YtlinjanflenljaaGreatDoor
open Go.RowKit
set_option linter.unusedSimpArgs false
set_option linter.unusedVariables false
set_option linter.unusedSectionVars false
set_option maxRecDepth 10000
attribute [local go_sem ↓] hideAppend
set_option maxHeartbeats 64000000 in
theorem fields_walk (m : Mg) (A : Option Addr) (c : Nat) (q : Int) (hq : 0 ≤ q ∧ q ≤ 255) (w : World) (hL : Ldr w) (hI : IsM w m A c) :
    Calls Tryz.prog 11 #[.agg #[.int .i64 m.k, .int .i64 m.fr, .int .i64 m.tt, .int .i64 m.ro, .int .i64 m.no, .int .i64 m.sl, .int .i64 m.nu, .string (sOf m.v), .slice A m.l.length c], .int .u8 q] w fun e w' => e = .returned (.bool true) ∧ Below w.heap.size w w' := by
  obtain ⟨U, hU⟩ : ∃ U, U = w.alloc (.cells #[.int .i64 m.k, .int .i64 m.fr, .int .i64 m.tt, .int .i64 m.ro, .int .i64 m.no, .int .i64 m.sl, .int .i64 m.nu, .string (sOf m.v), .slice A m.l.length c] 28) := ⟨_, rfl⟩
  have kx : Below w.heap.size w U := by rw [hU]; exact (Below.refl _ w).alloc (Nat.le_refl _) _
  have hBz : U.heap[w.heap.size]? = some (.cells #[.int .i64 m.k, .int .i64 m.fr, .int .i64 m.tt, .int .i64 m.ro, .int .i64 m.no, .int .i64 m.sl, .int .i64 m.nu, .string (sOf m.v), .slice A m.l.length c] 28 (0, 0)) := by rw [hU]; exact hpNew w _
  replace hL := Lib.hid hL; replace hI := Lib.hid hI; replace hBz := Lib.hid hBz; replace kx := Lib.hid kx
  obtain ⟨qn, rfl⟩ : ∃ n : Nat, q = (n : Int) := ⟨q.toNat, by omega⟩
  go_enter Tryz.func11, Tryz.ntmps11
  go_wp2_with (fail)
  rw [← hU]
  clear hU
  refine (short_any m A c U (hI.out.keep kx.out)).mono ?_
  rintro e W1 ⟨⟨b, rfl, -⟩, b1⟩
  have kx1 := Lib.hid (kx.out.trans (b1.mono kx.out.size))
  have hBz_1 := Lib.hid ((b1.block _ (blkX hBz.out)).trans hBz.out)
  clear b1 kx; have kx := kx1; clear kx1
  clear hBz; have hBz := hBz_1; clear hBz_1
  have z0 : W1.cell? ⟨w.heap.size, 0, none⟩ = some (.int .i64 m.k) := blkC hBz.out 0
  have z1 : W1.cell? ⟨w.heap.size, 1, none⟩ = some (.int .i64 m.fr) := blkC hBz.out 1
  have z2 : W1.cell? ⟨w.heap.size, 2, none⟩ = some (.int .i64 m.tt) := blkC hBz.out 2
  have z3 : W1.cell? ⟨w.heap.size, 3, none⟩ = some (.int .i64 m.ro) := blkC hBz.out 3
  have z4 : W1.cell? ⟨w.heap.size, 4, none⟩ = some (.int .i64 m.no) := blkC hBz.out 4
  have z5 : W1.cell? ⟨w.heap.size, 5, none⟩ = some (.int .i64 m.sl) := blkC hBz.out 5
  have z6 : W1.cell? ⟨w.heap.size, 6, none⟩ = some (.int .i64 m.nu) := blkC hBz.out 6
  have z7 : W1.cell? ⟨w.heap.size, 7, none⟩ = some (.string (sOf m.v)) := blkC hBz.out 7
  have z8 : W1.cell? ⟨w.heap.size, 8, none⟩ = some (.slice A m.l.length c) := blkC hBz.out 8
  have lz := blkX hBz.out
  cases b
  · go_wp2_with (fail)
    refine (works_any _ (hL.out.keep kx.out)).mono ?_
    rintro e W2 ⟨rfl, bv⟩
    have kx2 := Lib.hid (kx.out.trans (bv.mono kx.out.size))
    have hBz_2 := Lib.hid ((bv.block _ (blkX hBz.out)).trans hBz.out)
    clear z0 z1 z2 z3 z4 z5 z6 z7 z8 lz 
    clear bv kx; have kx := kx2; clear kx2
    clear hBz; have hBz := hBz_2; clear hBz_2
    go_wp2_with (fail)
    go_ret
    exact ⟨rfl, kx.out⟩
  · go_wp2_with (fail)
    refine (check_m m A c _ (hL.out.keep kx.out) (SL.keep hI.out.es kx.out) (by have := hI.out.n; omega)).mono ?_
    rintro e W2 ⟨rfl, b1⟩
    have kx2 := Lib.hid (kx.out.trans (b1.mono kx.out.size))
    have hBz_2 := Lib.hid ((b1.block _ (blkX hBz.out)).trans hBz.out)
    clear z0 z1 z2 z3 z4 z5 z6 z7 z8 lz 
    clear b1 kx; have kx := kx2; clear kx2
    clear hBz; have hBz := hBz_2; clear hBz_2
    have z0 : W2.cell? ⟨w.heap.size, 0, none⟩ = some (.int .i64 m.k) := blkC hBz.out 0
    have z1 : W2.cell? ⟨w.heap.size, 1, none⟩ = some (.int .i64 m.fr) := blkC hBz.out 1
    have z2 : W2.cell? ⟨w.heap.size, 2, none⟩ = some (.int .i64 m.tt) := blkC hBz.out 2
    have z3 : W2.cell? ⟨w.heap.size, 3, none⟩ = some (.int .i64 m.ro) := blkC hBz.out 3
    have z4 : W2.cell? ⟨w.heap.size, 4, none⟩ = some (.int .i64 m.no) := blkC hBz.out 4
    have z5 : W2.cell? ⟨w.heap.size, 5, none⟩ = some (.int .i64 m.sl) := blkC hBz.out 5
    have z6 : W2.cell? ⟨w.heap.size, 6, none⟩ = some (.int .i64 m.nu) := blkC hBz.out 6
    have z7 : W2.cell? ⟨w.heap.size, 7, none⟩ = some (.string (sOf m.v)) := blkC hBz.out 7
    have z8 : W2.cell? ⟨w.heap.size, 8, none⟩ = some (.slice A m.l.length c) := blkC hBz.out 8
    have lz := blkX hBz.out
    by_cases h0 : encE m = 0
    rotate_left
    · generalize hz : encE m = z at *
      have h1 : (z == 0) = false := by simp [h0]
      replace hz := Lib.hid hz
      go_wp2_with (fail)
      refine (works_any _ (hL.out.keep kx.out)).mono ?_
      rintro e W3 ⟨rfl, bv⟩
      have kx3 := Lib.hid (kx.out.trans (bv.mono kx.out.size))
      have hBz_3 := Lib.hid ((bv.block _ (blkX hBz.out)).trans hBz.out)
      clear z0 z1 z2 z3 z4 z5 z6 z7 z8 lz 
      clear bv kx; have kx := kx3; clear kx3
      clear hBz; have hBz := hBz_3; clear hBz_3
      go_wp2_with (fail)
      go_ret
      exact ⟨rfl, kx.out⟩
    rw [h0]
    have hs2 := Lib.hid kx.out.size
    go_wp2_with (fail)
    refine (copy_any m A c _ (hI.out.keep kx.out)).mono ?_
    rintro e W3 ⟨A3, c3, rfl, ho, b1⟩
    have kx3 := Lib.hid (kx.out.trans (b1.mono kx.out.size))
    have hBz_3 := Lib.hid ((b1.block _ (blkX hBz.out)).trans hBz.out)
    replace ho := Lib.hid ho
    clear z0 z1 z2 z3 z4 z5 z6 z7 z8 lz 
    clear b1 kx; have kx := kx3; clear kx3
    clear hBz; have hBz := hBz_3; clear hBz_3
    obtain ⟨harg, hnl, -⟩ := encE_ok h0
    have hfit := fit_of harg hnl
    obtain ⟨g0, g1, g2, g3, g4, g5⟩ := argOK_parts harg
    simp only [headOK, decide_eq_true_eq] at g0
    have hES3 := Lib.hid (show ES W3 A3 m.l.length m.l from SL.of_own encEnt_len ho.out rfl)
    have h9 : qn % 9 = 0 ∨ qn % 9 = 1 ∨ qn % 9 = 2 ∨ qn % 9 = 3 ∨ qn % 9 = 4 ∨ qn % 9 = 5 ∨ qn % 9 = 6 ∨ qn % 9 = 7 ∨ qn % 9 = 8 := by omega
    rcases h9 with h9 | h9 | h9 | h9 | h9 | h9 | h9 | h9 | h9
    · have r1 : (qn : Int) % 9 = 0 := by omega
      have r2 : (qn : Int).tmod 9 = 0 := by rw [show (9 : Int) = ((9 : Nat) : Int) from rfl, ← Int.ofNat_tmod, h9]; rfl
      have hbad : argOK ({ m with fr := m.tt } : Mg) = false := by
        rw [← Bool.not_eq_true]
        intro hq
        have hq2 := (argOK_parts hq).1
        simp only [headOK, decide_eq_true_eq] at hq2
        exact hq2.2.2.2.2.2.2 rfl
      have hE2 := enc_arg hbad
      have hT2 : txtM ({ m with fr := m.tt } : Mg) = [] := by unfold txtM; rw [hE2]; rfl
      have kn : Below w.heap.size w (W3.alloc (.cells #[.int .i64 m.k, .int .i64 m.tt, .int .i64 m.tt, .int .i64 m.ro, .int .i64 m.no, .int .i64 m.sl, .int .i64 m.nu, .string (sOf m.v), .slice A3 m.l.length c3] 28)) := kx.out.alloc kx.out.size _
      have hBm : (W3.alloc (.cells #[.int .i64 m.k, .int .i64 m.tt, .int .i64 m.tt, .int .i64 m.ro, .int .i64 m.no, .int .i64 m.sl, .int .i64 m.nu, .string (sOf m.v), .slice A3 m.l.length c3] 28)).heap[W3.heap.size]? = some (.cells #[.int .i64 m.k, .int .i64 m.tt, .int .i64 m.tt, .int .i64 m.ro, .int .i64 m.no, .int .i64 m.sl, .int .i64 m.nu, .string (sOf m.v), .slice A3 m.l.length c3] 28 (0, 0)) := hpNew W3 _
      have hESn : ES (W3.alloc (.cells #[.int .i64 m.k, .int .i64 m.tt, .int .i64 m.tt, .int .i64 m.ro, .int .i64 m.no, .int .i64 m.sl, .int .i64 m.nu, .string (sOf m.v), .slice A3 m.l.length c3] 28)) A3 m.l.length m.l := SL.keep hES3.out ((Below.refl _ W3).alloc (Nat.le_refl _) _)
      have hen := enc_any ({ m with fr := m.tt } : Mg) A3 c3 (W3.alloc (.cells #[.int .i64 m.k, .int .i64 m.tt, .int .i64 m.tt, .int .i64 m.ro, .int .i64 m.no, .int .i64 m.sl, .int .i64 m.nu, .string (sOf m.v), .slice A3 m.l.length c3] 28)) (hL.out.keep kn) hESn (show m.l.length ≤ 70368744177664 from by have := hI.out.n; omega)
      replace kn := Lib.hid kn; replace hBm := Lib.hid hBm; replace hESn := Lib.hid hESn; (try replace hks := Lib.hid hks); replace hbad := Lib.hid hbad; replace hE2 := Lib.hid hE2; replace hT2 := Lib.hid hT2; replace hfit := Lib.hid hfit; replace h0 := Lib.hid h0
      clear harg hnl g0 g1 g2 g3 g4 g5
      go_wp2_with (fail)
      clear kx; have kx := kn; have hBn := hBm; clear kn hBm
      refine hen.mono ?_
      rintro e X1 ⟨A5, c5, rfl, o5, b5⟩
      rw [hE2.out]
      have kx2 := Lib.hid (kx.out.trans (b5.mono kx.out.size))
      have hB2 := Lib.hid ((b5.block _ (blkX hBn.out)).trans hBn.out)
      have hES2 := Lib.hid (SL.keep hESn.out b5)
      clear  o5 b5 hen
      clear kx hBn hESn; have kx := kx2; have hBn := hB2; have hESn := hES2; clear kx2 hB2 hES2
      generalize (encB ({ m with fr := m.tt } : Mg)).length = LL at *
      have n0 : X1.cell? ⟨W3.heap.size, 0, none⟩ = some (.int .i64 m.k) := blkC hBn.out 0
      have n1 : X1.cell? ⟨W3.heap.size, 1, none⟩ = some (.int .i64 m.tt) := blkC hBn.out 1
      have n2 : X1.cell? ⟨W3.heap.size, 2, none⟩ = some (.int .i64 m.tt) := blkC hBn.out 2
      have n3 : X1.cell? ⟨W3.heap.size, 3, none⟩ = some (.int .i64 m.ro) := blkC hBn.out 3
      have n4 : X1.cell? ⟨W3.heap.size, 4, none⟩ = some (.int .i64 m.no) := blkC hBn.out 4
      have n5 : X1.cell? ⟨W3.heap.size, 5, none⟩ = some (.int .i64 m.sl) := blkC hBn.out 5
      have n6 : X1.cell? ⟨W3.heap.size, 6, none⟩ = some (.int .i64 m.nu) := blkC hBn.out 6
      have n7 : X1.cell? ⟨W3.heap.size, 7, none⟩ = some (.string (sOf m.v)) := blkC hBn.out 7
      have n8 : X1.cell? ⟨W3.heap.size, 8, none⟩ = some (.slice A3 m.l.length c3) := blkC hBn.out 8
      have ln := blkX hBn.out
      go_wp2_with (fail)
      refine (textm_any ({ m with fr := m.tt } : Mg) A3 c3 _ (hL.out.keep kx.out) hESn.out (show m.l.length ≤ 70368744177664 from by have := hI.out.n; omega)).mono ?_
      rintro e W4 ⟨rfl, b5⟩
      have kx4 := Lib.hid (kx.out.trans (b5.mono kx.out.size))
      have hBn_4 := Lib.hid ((b5.block _ (blkX hBn.out)).trans hBn.out)
      have hES2 := Lib.hid (SL.keep hESn.out b5)
      clear hESn; have hESn := hES2; clear hES2
      clear n0 n1 n2 n3 n4 n5 n6 n7 n8 ln 
      clear b5 kx; have kx := kx4; clear kx4
      clear hBn; have hBn := hBn_4; clear hBn_4
      rw [hE2.out, hT2.out]
      have n0 : W4.cell? ⟨W3.heap.size, 0, none⟩ = some (.int .i64 m.k) := blkC hBn.out 0
      have n1 : W4.cell? ⟨W3.heap.size, 1, none⟩ = some (.int .i64 m.tt) := blkC hBn.out 1
      have n2 : W4.cell? ⟨W3.heap.size, 2, none⟩ = some (.int .i64 m.tt) := blkC hBn.out 2
      have n3 : W4.cell? ⟨W3.heap.size, 3, none⟩ = some (.int .i64 m.ro) := blkC hBn.out 3
      have n4 : W4.cell? ⟨W3.heap.size, 4, none⟩ = some (.int .i64 m.no) := blkC hBn.out 4
      have n5 : W4.cell? ⟨W3.heap.size, 5, none⟩ = some (.int .i64 m.sl) := blkC hBn.out 5
      have n6 : W4.cell? ⟨W3.heap.size, 6, none⟩ = some (.int .i64 m.nu) := blkC hBn.out 6
      have n7 : W4.cell? ⟨W3.heap.size, 7, none⟩ = some (.string (sOf m.v)) := blkC hBn.out 7
      have n8 : W4.cell? ⟨W3.heap.size, 8, none⟩ = some (.slice A3 m.l.length c3) := blkC hBn.out 8
      have ln := blkX hBn.out
      go_wp2_with (fail)
      refine (check_m ({ m with fr := m.tt } : Mg) A3 c3 _ (hL.out.keep kx.out) hESn.out (show m.l.length ≤ 70368744177664 from by have := hI.out.n; omega)).mono ?_
      rintro e W5 ⟨rfl, b5⟩
      have kx5 := Lib.hid (kx.out.trans (b5.mono kx.out.size))
      have hBn_5 := Lib.hid ((b5.block _ (blkX hBn.out)).trans hBn.out)
      clear n0 n1 n2 n3 n4 n5 n6 n7 n8 ln 
      clear b5 kx; have kx := kx5; clear kx5
      clear hBn; have hBn := hBn_5; clear hBn_5
      rw [hE2.out]
      go_wp2_with (fail)
      refine (works_any _ (hL.out.keep kx.out)).mono ?_
      rintro e W6 ⟨rfl, bv⟩
      have kx6 := Lib.hid (kx.out.trans (bv.mono kx.out.size))
      have hBn_6 := Lib.hid ((bv.block _ (blkX hBn.out)).trans hBn.out)
      clear bv kx; have kx := kx6; clear kx6
      clear hBn; have hBn := hBn_6; clear hBn_6
      go_wp2_with (fail)
      go_ret
      exact ⟨rfl, kx.out⟩
    · have r1 : (qn : Int) % 9 = 1 := by omega
      have r2 : (qn : Int).tmod 9 = 1 := by rw [show (9 : Int) = ((9 : Nat) : Int) from rfl, ← Int.ofNat_tmod, h9]; rfl
      have hbad : argOK ({ m with tt := 56 } : Mg) = false := by
        rw [← Bool.not_eq_true]
        intro hq
        have hq2 := (argOK_parts hq).1
        simp only [headOK, decide_eq_true_eq] at hq2
        omega
      have hE2 := enc_arg hbad
      have hT2 : txtM ({ m with tt := 56 } : Mg) = [] := by unfold txtM; rw [hE2]; rfl
      have kn : Below w.heap.size w (W3.alloc (.cells #[.int .i64 m.k, .int .i64 m.fr, .int .i64 56, .int .i64 m.ro, .int .i64 m.no, .int .i64 m.sl, .int .i64 m.nu, .string (sOf m.v), .slice A3 m.l.length c3] 28)) := kx.out.alloc kx.out.size _
      have hBm : (W3.alloc (.cells #[.int .i64 m.k, .int .i64 m.fr, .int .i64 56, .int .i64 m.ro, .int .i64 m.no, .int .i64 m.sl, .int .i64 m.nu, .string (sOf m.v), .slice A3 m.l.length c3] 28)).heap[W3.heap.size]? = some (.cells #[.int .i64 m.k, .int .i64 m.fr, .int .i64 56, .int .i64 m.ro, .int .i64 m.no, .int .i64 m.sl, .int .i64 m.nu, .string (sOf m.v), .slice A3 m.l.length c3] 28 (0, 0)) := hpNew W3 _
      have hESn : ES (W3.alloc (.cells #[.int .i64 m.k, .int .i64 m.fr, .int .i64 56, .int .i64 m.ro, .int .i64 m.no, .int .i64 m.sl, .int .i64 m.nu, .string (sOf m.v), .slice A3 m.l.length c3] 28)) A3 m.l.length m.l := SL.keep hES3.out ((Below.refl _ W3).alloc (Nat.le_refl _) _)
      have hen := enc_any ({ m with tt := 56 } : Mg) A3 c3 (W3.alloc (.cells #[.int .i64 m.k, .int .i64 m.fr, .int .i64 56, .int .i64 m.ro, .int .i64 m.no, .int .i64 m.sl, .int .i64 m.nu, .string (sOf m.v), .slice A3 m.l.length c3] 28)) (hL.out.keep kn) hESn (show m.l.length ≤ 70368744177664 from by have := hI.out.n; omega)
      replace kn := Lib.hid kn; replace hBm := Lib.hid hBm; replace hESn := Lib.hid hESn; (try replace hks := Lib.hid hks); replace hbad := Lib.hid hbad; replace hE2 := Lib.hid hE2; replace hT2 := Lib.hid hT2; replace hfit := Lib.hid hfit; replace h0 := Lib.hid h0
      clear harg hnl g0 g1 g2 g3 g4 g5
      go_wp2_with (fail)
      clear kx; have kx := kn; have hBn := hBm; clear kn hBm
      refine hen.mono ?_
      rintro e X1 ⟨A5, c5, rfl, o5, b5⟩
      rw [hE2.out]
      have kx2 := Lib.hid (kx.out.trans (b5.mono kx.out.size))
      have hB2 := Lib.hid ((b5.block _ (blkX hBn.out)).trans hBn.out)
      have hES2 := Lib.hid (SL.keep hESn.out b5)
      clear  o5 b5 hen
      clear kx hBn hESn; have kx := kx2; have hBn := hB2; have hESn := hES2; clear kx2 hB2 hES2
      generalize (encB ({ m with tt := 56 } : Mg)).length = LL at *
      have n0 : X1.cell? ⟨W3.heap.size, 0, none⟩ = some (.int .i64 m.k) := blkC hBn.out 0
      have n1 : X1.cell? ⟨W3.heap.size, 1, none⟩ = some (.int .i64 m.fr) := blkC hBn.out 1
      have n2 : X1.cell? ⟨W3.heap.size, 2, none⟩ = some (.int .i64 56) := blkC hBn.out 2
      have n3 : X1.cell? ⟨W3.heap.size, 3, none⟩ = some (.int .i64 m.ro) := blkC hBn.out 3
      have n4 : X1.cell? ⟨W3.heap.size, 4, none⟩ = some (.int .i64 m.no) := blkC hBn.out 4
      have n5 : X1.cell? ⟨W3.heap.size, 5, none⟩ = some (.int .i64 m.sl) := blkC hBn.out 5
      have n6 : X1.cell? ⟨W3.heap.size, 6, none⟩ = some (.int .i64 m.nu) := blkC hBn.out 6
      have n7 : X1.cell? ⟨W3.heap.size, 7, none⟩ = some (.string (sOf m.v)) := blkC hBn.out 7
      have n8 : X1.cell? ⟨W3.heap.size, 8, none⟩ = some (.slice A3 m.l.length c3) := blkC hBn.out 8
      have ln := blkX hBn.out
      go_wp2_with (fail)
      refine (textm_any ({ m with tt := 56 } : Mg) A3 c3 _ (hL.out.keep kx.out) hESn.out (show m.l.length ≤ 70368744177664 from by have := hI.out.n; omega)).mono ?_
      rintro e W4 ⟨rfl, b5⟩
      have kx4 := Lib.hid (kx.out.trans (b5.mono kx.out.size))
      have hBn_4 := Lib.hid ((b5.block _ (blkX hBn.out)).trans hBn.out)
      have hES2 := Lib.hid (SL.keep hESn.out b5)
      clear hESn; have hESn := hES2; clear hES2
      clear n0 n1 n2 n3 n4 n5 n6 n7 n8 ln 
      clear b5 kx; have kx := kx4; clear kx4
      clear hBn; have hBn := hBn_4; clear hBn_4
      rw [hE2.out, hT2.out]
      have n0 : W4.cell? ⟨W3.heap.size, 0, none⟩ = some (.int .i64 m.k) := blkC hBn.out 0
      have n1 : W4.cell? ⟨W3.heap.size, 1, none⟩ = some (.int .i64 m.fr) := blkC hBn.out 1
      have n2 : W4.cell? ⟨W3.heap.size, 2, none⟩ = some (.int .i64 56) := blkC hBn.out 2
      have n3 : W4.cell? ⟨W3.heap.size, 3, none⟩ = some (.int .i64 m.ro) := blkC hBn.out 3
      have n4 : W4.cell? ⟨W3.heap.size, 4, none⟩ = some (.int .i64 m.no) := blkC hBn.out 4
      have n5 : W4.cell? ⟨W3.heap.size, 5, none⟩ = some (.int .i64 m.sl) := blkC hBn.out 5
      have n6 : W4.cell? ⟨W3.heap.size, 6, none⟩ = some (.int .i64 m.nu) := blkC hBn.out 6
      have n7 : W4.cell? ⟨W3.heap.size, 7, none⟩ = some (.string (sOf m.v)) := blkC hBn.out 7
      have n8 : W4.cell? ⟨W3.heap.size, 8, none⟩ = some (.slice A3 m.l.length c3) := blkC hBn.out 8
      have ln := blkX hBn.out
      go_wp2_with (fail)
      refine (check_m ({ m with tt := 56 } : Mg) A3 c3 _ (hL.out.keep kx.out) hESn.out (show m.l.length ≤ 70368744177664 from by have := hI.out.n; omega)).mono ?_
      rintro e W5 ⟨rfl, b5⟩
      have kx5 := Lib.hid (kx.out.trans (b5.mono kx.out.size))
      have hBn_5 := Lib.hid ((b5.block _ (blkX hBn.out)).trans hBn.out)
      clear n0 n1 n2 n3 n4 n5 n6 n7 n8 ln 
      clear b5 kx; have kx := kx5; clear kx5
      clear hBn; have hBn := hBn_5; clear hBn_5
      rw [hE2.out]
      go_wp2_with (fail)
      refine (works_any _ (hL.out.keep kx.out)).mono ?_
      rintro e W6 ⟨rfl, bv⟩
      have kx6 := Lib.hid (kx.out.trans (bv.mono kx.out.size))
      have hBn_6 := Lib.hid ((bv.block _ (blkX hBn.out)).trans hBn.out)
      clear bv kx; have kx := kx6; clear kx6
      clear hBn; have hBn := hBn_6; clear hBn_6
      go_wp2_with (fail)
      go_ret
      exact ⟨rfl, kx.out⟩
    · have r1 : (qn : Int) % 9 = 2 := by omega
      have r2 : (qn : Int).tmod 9 = 2 := by rw [show (9 : Int) = ((9 : Nat) : Int) from rfl, ← Int.ofNat_tmod, h9]; rfl
      have hbad : argOK ({ m with k := 12 } : Mg) = false := by
        rw [← Bool.not_eq_true]
        intro hq
        have hq2 := (argOK_parts hq).1
        simp only [headOK, decide_eq_true_eq] at hq2
        omega
      have hE2 := enc_arg hbad
      have hT2 : txtM ({ m with k := 12 } : Mg) = [] := by unfold txtM; rw [hE2]; rfl
      have kn : Below w.heap.size w (W3.alloc (.cells #[.int .i64 12, .int .i64 m.fr, .int .i64 m.tt, .int .i64 m.ro, .int .i64 m.no, .int .i64 m.sl, .int .i64 m.nu, .string (sOf m.v), .slice A3 m.l.length c3] 28)) := kx.out.alloc kx.out.size _
      have hBm : (W3.alloc (.cells #[.int .i64 12, .int .i64 m.fr, .int .i64 m.tt, .int .i64 m.ro, .int .i64 m.no, .int .i64 m.sl, .int .i64 m.nu, .string (sOf m.v), .slice A3 m.l.length c3] 28)).heap[W3.heap.size]? = some (.cells #[.int .i64 12, .int .i64 m.fr, .int .i64 m.tt, .int .i64 m.ro, .int .i64 m.no, .int .i64 m.sl, .int .i64 m.nu, .string (sOf m.v), .slice A3 m.l.length c3] 28 (0, 0)) := hpNew W3 _
      have hESn : ES (W3.alloc (.cells #[.int .i64 12, .int .i64 m.fr, .int .i64 m.tt, .int .i64 m.ro, .int .i64 m.no, .int .i64 m.sl, .int .i64 m.nu, .string (sOf m.v), .slice A3 m.l.length c3] 28)) A3 m.l.length m.l := SL.keep hES3.out ((Below.refl _ W3).alloc (Nat.le_refl _) _)
      have hen := enc_any ({ m with k := 12 } : Mg) A3 c3 (W3.alloc (.cells #[.int .i64 12, .int .i64 m.fr, .int .i64 m.tt, .int .i64 m.ro, .int .i64 m.no, .int .i64 m.sl, .int .i64 m.nu, .string (sOf m.v), .slice A3 m.l.length c3] 28)) (hL.out.keep kn) hESn (show m.l.length ≤ 70368744177664 from by have := hI.out.n; omega)
      replace kn := Lib.hid kn; replace hBm := Lib.hid hBm; replace hESn := Lib.hid hESn; (try replace hks := Lib.hid hks); replace hbad := Lib.hid hbad; replace hE2 := Lib.hid hE2; replace hT2 := Lib.hid hT2; replace hfit := Lib.hid hfit; replace h0 := Lib.hid h0
      clear harg hnl g0 g1 g2 g3 g4 g5
      go_wp2_with (fail)
      clear kx; have kx := kn; have hBn := hBm; clear kn hBm
      refine hen.mono ?_
      rintro e X1 ⟨A5, c5, rfl, o5, b5⟩
      rw [hE2.out]
      have kx2 := Lib.hid (kx.out.trans (b5.mono kx.out.size))
      have hB2 := Lib.hid ((b5.block _ (blkX hBn.out)).trans hBn.out)
      have hES2 := Lib.hid (SL.keep hESn.out b5)
      clear  o5 b5 hen
      clear kx hBn hESn; have kx := kx2; have hBn := hB2; have hESn := hES2; clear kx2 hB2 hES2
      generalize (encB ({ m with k := 12 } : Mg)).length = LL at *
      have n0 : X1.cell? ⟨W3.heap.size, 0, none⟩ = some (.int .i64 12) := blkC hBn.out 0
      have n1 : X1.cell? ⟨W3.heap.size, 1, none⟩ = some (.int .i64 m.fr) := blkC hBn.out 1
      have n2 : X1.cell? ⟨W3.heap.size, 2, none⟩ = some (.int .i64 m.tt) := blkC hBn.out 2
      have n3 : X1.cell? ⟨W3.heap.size, 3, none⟩ = some (.int .i64 m.ro) := blkC hBn.out 3
      have n4 : X1.cell? ⟨W3.heap.size, 4, none⟩ = some (.int .i64 m.no) := blkC hBn.out 4
      have n5 : X1.cell? ⟨W3.heap.size, 5, none⟩ = some (.int .i64 m.sl) := blkC hBn.out 5
      have n6 : X1.cell? ⟨W3.heap.size, 6, none⟩ = some (.int .i64 m.nu) := blkC hBn.out 6
      have n7 : X1.cell? ⟨W3.heap.size, 7, none⟩ = some (.string (sOf m.v)) := blkC hBn.out 7
      have n8 : X1.cell? ⟨W3.heap.size, 8, none⟩ = some (.slice A3 m.l.length c3) := blkC hBn.out 8
      have ln := blkX hBn.out
      go_wp2_with (fail)
      refine (textm_any ({ m with k := 12 } : Mg) A3 c3 _ (hL.out.keep kx.out) hESn.out (show m.l.length ≤ 70368744177664 from by have := hI.out.n; omega)).mono ?_
      rintro e W4 ⟨rfl, b5⟩
      have kx4 := Lib.hid (kx.out.trans (b5.mono kx.out.size))
      have hBn_4 := Lib.hid ((b5.block _ (blkX hBn.out)).trans hBn.out)
      have hES2 := Lib.hid (SL.keep hESn.out b5)
      clear hESn; have hESn := hES2; clear hES2
      clear n0 n1 n2 n3 n4 n5 n6 n7 n8 ln 
      clear b5 kx; have kx := kx4; clear kx4
      clear hBn; have hBn := hBn_4; clear hBn_4
      rw [hE2.out, hT2.out]
      have n0 : W4.cell? ⟨W3.heap.size, 0, none⟩ = some (.int .i64 12) := blkC hBn.out 0
      have n1 : W4.cell? ⟨W3.heap.size, 1, none⟩ = some (.int .i64 m.fr) := blkC hBn.out 1
      have n2 : W4.cell? ⟨W3.heap.size, 2, none⟩ = some (.int .i64 m.tt) := blkC hBn.out 2
      have n3 : W4.cell? ⟨W3.heap.size, 3, none⟩ = some (.int .i64 m.ro) := blkC hBn.out 3
      have n4 : W4.cell? ⟨W3.heap.size, 4, none⟩ = some (.int .i64 m.no) := blkC hBn.out 4
      have n5 : W4.cell? ⟨W3.heap.size, 5, none⟩ = some (.int .i64 m.sl) := blkC hBn.out 5
      have n6 : W4.cell? ⟨W3.heap.size, 6, none⟩ = some (.int .i64 m.nu) := blkC hBn.out 6
      have n7 : W4.cell? ⟨W3.heap.size, 7, none⟩ = some (.string (sOf m.v)) := blkC hBn.out 7
      have n8 : W4.cell? ⟨W3.heap.size, 8, none⟩ = some (.slice A3 m.l.length c3) := blkC hBn.out 8
      have ln := blkX hBn.out
      go_wp2_with (fail)
      refine (check_m ({ m with k := 12 } : Mg) A3 c3 _ (hL.out.keep kx.out) hESn.out (show m.l.length ≤ 70368744177664 from by have := hI.out.n; omega)).mono ?_
      rintro e W5 ⟨rfl, b5⟩
      have kx5 := Lib.hid (kx.out.trans (b5.mono kx.out.size))
      have hBn_5 := Lib.hid ((b5.block _ (blkX hBn.out)).trans hBn.out)
      clear n0 n1 n2 n3 n4 n5 n6 n7 n8 ln 
      clear b5 kx; have kx := kx5; clear kx5
      clear hBn; have hBn := hBn_5; clear hBn_5
      rw [hE2.out]
      go_wp2_with (fail)
      refine (works_any _ (hL.out.keep kx.out)).mono ?_
      rintro e W6 ⟨rfl, bv⟩
      have kx6 := Lib.hid (kx.out.trans (bv.mono kx.out.size))
      have hBn_6 := Lib.hid ((bv.block _ (blkX hBn.out)).trans hBn.out)
      clear bv kx; have kx := kx6; clear kx6
      clear hBn; have hBn := hBn_6; clear hBn_6
      go_wp2_with (fail)
      go_ret
      exact ⟨rfl, kx.out⟩
    · have r1 : (qn : Int) % 9 = 3 := by omega
      have r2 : (qn : Int).tmod 9 = 3 := by rw [show (9 : Int) = ((9 : Nat) : Int) from rfl, ← Int.ofNat_tmod, h9]; rfl
      have hbad : argOK ({ m with k := 0 } : Mg) = false := by
        rw [← Bool.not_eq_true]
        intro hq
        have hq2 := (argOK_parts hq).1
        simp only [headOK, decide_eq_true_eq] at hq2
        omega
      have hE2 := enc_arg hbad
      have hT2 : txtM ({ m with k := 0 } : Mg) = [] := by unfold txtM; rw [hE2]; rfl
      have kn : Below w.heap.size w (W3.alloc (.cells #[.int .i64 0, .int .i64 m.fr, .int .i64 m.tt, .int .i64 m.ro, .int .i64 m.no, .int .i64 m.sl, .int .i64 m.nu, .string (sOf m.v), .slice A3 m.l.length c3] 28)) := kx.out.alloc kx.out.size _
      have hBm : (W3.alloc (.cells #[.int .i64 0, .int .i64 m.fr, .int .i64 m.tt, .int .i64 m.ro, .int .i64 m.no, .int .i64 m.sl, .int .i64 m.nu, .string (sOf m.v), .slice A3 m.l.length c3] 28)).heap[W3.heap.size]? = some (.cells #[.int .i64 0, .int .i64 m.fr, .int .i64 m.tt, .int .i64 m.ro, .int .i64 m.no, .int .i64 m.sl, .int .i64 m.nu, .string (sOf m.v), .slice A3 m.l.length c3] 28 (0, 0)) := hpNew W3 _
      have hESn : ES (W3.alloc (.cells #[.int .i64 0, .int .i64 m.fr, .int .i64 m.tt, .int .i64 m.ro, .int .i64 m.no, .int .i64 m.sl, .int .i64 m.nu, .string (sOf m.v), .slice A3 m.l.length c3] 28)) A3 m.l.length m.l := SL.keep hES3.out ((Below.refl _ W3).alloc (Nat.le_refl _) _)
      have hen := enc_any ({ m with k := 0 } : Mg) A3 c3 (W3.alloc (.cells #[.int .i64 0, .int .i64 m.fr, .int .i64 m.tt, .int .i64 m.ro, .int .i64 m.no, .int .i64 m.sl, .int .i64 m.nu, .string (sOf m.v), .slice A3 m.l.length c3] 28)) (hL.out.keep kn) hESn (show m.l.length ≤ 70368744177664 from by have := hI.out.n; omega)
      replace kn := Lib.hid kn; replace hBm := Lib.hid hBm; replace hESn := Lib.hid hESn; (try replace hks := Lib.hid hks); replace hbad := Lib.hid hbad; replace hE2 := Lib.hid hE2; replace hT2 := Lib.hid hT2; replace hfit := Lib.hid hfit; replace h0 := Lib.hid h0
      clear harg hnl g0 g1 g2 g3 g4 g5
      go_wp2_with (fail)
      clear kx; have kx := kn; have hBn := hBm; clear kn hBm
      refine hen.mono ?_
      rintro e X1 ⟨A5, c5, rfl, o5, b5⟩
      rw [hE2.out]
      have kx2 := Lib.hid (kx.out.trans (b5.mono kx.out.size))
      have hB2 := Lib.hid ((b5.block _ (blkX hBn.out)).trans hBn.out)
      have hES2 := Lib.hid (SL.keep hESn.out b5)
      clear  o5 b5 hen
      clear kx hBn hESn; have kx := kx2; have hBn := hB2; have hESn := hES2; clear kx2 hB2 hES2
      generalize (encB ({ m with k := 0 } : Mg)).length = LL at *
      have n0 : X1.cell? ⟨W3.heap.size, 0, none⟩ = some (.int .i64 0) := blkC hBn.out 0
      have n1 : X1.cell? ⟨W3.heap.size, 1, none⟩ = some (.int .i64 m.fr) := blkC hBn.out 1
      have n2 : X1.cell? ⟨W3.heap.size, 2, none⟩ = some (.int .i64 m.tt) := blkC hBn.out 2
      have n3 : X1.cell? ⟨W3.heap.size, 3, none⟩ = some (.int .i64 m.ro) := blkC hBn.out 3
      have n4 : X1.cell? ⟨W3.heap.size, 4, none⟩ = some (.int .i64 m.no) := blkC hBn.out 4
      have n5 : X1.cell? ⟨W3.heap.size, 5, none⟩ = some (.int .i64 m.sl) := blkC hBn.out 5
      have n6 : X1.cell? ⟨W3.heap.size, 6, none⟩ = some (.int .i64 m.nu) := blkC hBn.out 6
      have n7 : X1.cell? ⟨W3.heap.size, 7, none⟩ = some (.string (sOf m.v)) := blkC hBn.out 7
      have n8 : X1.cell? ⟨W3.heap.size, 8, none⟩ = some (.slice A3 m.l.length c3) := blkC hBn.out 8
      have ln := blkX hBn.out
      go_wp2_with (fail)
      refine (textm_any ({ m with k := 0 } : Mg) A3 c3 _ (hL.out.keep kx.out) hESn.out (show m.l.length ≤ 70368744177664 from by have := hI.out.n; omega)).mono ?_
      rintro e W4 ⟨rfl, b5⟩
      have kx4 := Lib.hid (kx.out.trans (b5.mono kx.out.size))
      have hBn_4 := Lib.hid ((b5.block _ (blkX hBn.out)).trans hBn.out)
      have hES2 := Lib.hid (SL.keep hESn.out b5)
      clear hESn; have hESn := hES2; clear hES2
      clear n0 n1 n2 n3 n4 n5 n6 n7 n8 ln 
      clear b5 kx; have kx := kx4; clear kx4
      clear hBn; have hBn := hBn_4; clear hBn_4
      rw [hE2.out, hT2.out]
      have n0 : W4.cell? ⟨W3.heap.size, 0, none⟩ = some (.int .i64 0) := blkC hBn.out 0
      have n1 : W4.cell? ⟨W3.heap.size, 1, none⟩ = some (.int .i64 m.fr) := blkC hBn.out 1
      have n2 : W4.cell? ⟨W3.heap.size, 2, none⟩ = some (.int .i64 m.tt) := blkC hBn.out 2
      have n3 : W4.cell? ⟨W3.heap.size, 3, none⟩ = some (.int .i64 m.ro) := blkC hBn.out 3
      have n4 : W4.cell? ⟨W3.heap.size, 4, none⟩ = some (.int .i64 m.no) := blkC hBn.out 4
      have n5 : W4.cell? ⟨W3.heap.size, 5, none⟩ = some (.int .i64 m.sl) := blkC hBn.out 5
      have n6 : W4.cell? ⟨W3.heap.size, 6, none⟩ = some (.int .i64 m.nu) := blkC hBn.out 6
      have n7 : W4.cell? ⟨W3.heap.size, 7, none⟩ = some (.string (sOf m.v)) := blkC hBn.out 7
      have n8 : W4.cell? ⟨W3.heap.size, 8, none⟩ = some (.slice A3 m.l.length c3) := blkC hBn.out 8
      have ln := blkX hBn.out
      go_wp2_with (fail)
      refine (check_m ({ m with k := 0 } : Mg) A3 c3 _ (hL.out.keep kx.out) hESn.out (show m.l.length ≤ 70368744177664 from by have := hI.out.n; omega)).mono ?_
      rintro e W5 ⟨rfl, b5⟩
      have kx5 := Lib.hid (kx.out.trans (b5.mono kx.out.size))
      have hBn_5 := Lib.hid ((b5.block _ (blkX hBn.out)).trans hBn.out)
      clear n0 n1 n2 n3 n4 n5 n6 n7 n8 ln 
      clear b5 kx; have kx := kx5; clear kx5
      clear hBn; have hBn := hBn_5; clear hBn_5
      rw [hE2.out]
      go_wp2_with (fail)
      refine (works_any _ (hL.out.keep kx.out)).mono ?_
      rintro e W6 ⟨rfl, bv⟩
      have kx6 := Lib.hid (kx.out.trans (bv.mono kx.out.size))
      have hBn_6 := Lib.hid ((bv.block _ (blkX hBn.out)).trans hBn.out)
      clear bv kx; have kx := kx6; clear kx6
      clear hBn; have hBn := hBn_6; clear hBn_6
      go_wp2_with (fail)
      go_ret
      exact ⟨rfl, kx.out⟩
    · have r1 : (qn : Int) % 9 = 4 := by omega
      have r2 : (qn : Int).tmod 9 = 4 := by rw [show (9 : Int) = ((9 : Nat) : Int) from rfl, ← Int.ofNat_tmod, h9]; rfl
      have hks : (m.k = 1 ∨ m.k = 2 ∨ m.k = 3 ∨ m.k = 4 ∨ m.k = 5 ∨ m.k = 7) ∨ (m.k = 6) ∨ (m.k = 8) ∨ (m.k = 9 ∨ m.k = 10 ∨ m.k = 11) := by omega
      rcases hks with hks | hks | hks | hks
      · have y1 : (m.k == 6) = false := by simp; omega
        have y1b : (m.k != 6) = true := by simp; omega
        have y2 : (m.k == 8) = false := by simp; omega
        have y2b : (m.k != 8) = true := by simp; omega
        have y3 : m.k < 9 := by omega
        have hbad : argOK ({ m with ro := 0, no := 0 } : Mg) = false := by
          rw [← Bool.not_eq_true]
          intro hq
          have hq2 := (argOK_parts hq).2.1
          have hu : uB m.k = true := by unfold uB; exact decide_eq_true (by omega)
          unfold fB at hq2
          dsimp only at hq2
          rw [if_pos hu] at hq2
          simp [goodB] at hq2
        have hE2 := enc_arg hbad
        have hT2 : txtM ({ m with ro := 0, no := 0 } : Mg) = [] := by unfold txtM; rw [hE2]; rfl
        have kn : Below w.heap.size w (W3.alloc (.cells #[.int .i64 m.k, .int .i64 m.fr, .int .i64 m.tt, .int .i64 0, .int .i64 0, .int .i64 m.sl, .int .i64 m.nu, .string (sOf m.v), .slice A3 m.l.length c3] 28)) := kx.out.alloc kx.out.size _
        have hBm : (W3.alloc (.cells #[.int .i64 m.k, .int .i64 m.fr, .int .i64 m.tt, .int .i64 0, .int .i64 0, .int .i64 m.sl, .int .i64 m.nu, .string (sOf m.v), .slice A3 m.l.length c3] 28)).heap[W3.heap.size]? = some (.cells #[.int .i64 m.k, .int .i64 m.fr, .int .i64 m.tt, .int .i64 0, .int .i64 0, .int .i64 m.sl, .int .i64 m.nu, .string (sOf m.v), .slice A3 m.l.length c3] 28 (0, 0)) := hpNew W3 _
        have hESn : ES (W3.alloc (.cells #[.int .i64 m.k, .int .i64 m.fr, .int .i64 m.tt, .int .i64 0, .int .i64 0, .int .i64 m.sl, .int .i64 m.nu, .string (sOf m.v), .slice A3 m.l.length c3] 28)) A3 m.l.length m.l := SL.keep hES3.out ((Below.refl _ W3).alloc (Nat.le_refl _) _)
        have hen := enc_any ({ m with ro := 0, no := 0 } : Mg) A3 c3 (W3.alloc (.cells #[.int .i64 m.k, .int .i64 m.fr, .int .i64 m.tt, .int .i64 0, .int .i64 0, .int .i64 m.sl, .int .i64 m.nu, .string (sOf m.v), .slice A3 m.l.length c3] 28)) (hL.out.keep kn) hESn (show m.l.length ≤ 70368744177664 from by have := hI.out.n; omega)
        replace kn := Lib.hid kn; replace hBm := Lib.hid hBm; replace hESn := Lib.hid hESn; (try replace hks := Lib.hid hks); replace hbad := Lib.hid hbad; replace hE2 := Lib.hid hE2; replace hT2 := Lib.hid hT2; replace hfit := Lib.hid hfit; replace h0 := Lib.hid h0
        clear harg hnl g0 g1 g2 g3 g4 g5
        go_wp2_with (fail)
        clear kx; have kx := kn; have hBn := hBm; clear kn hBm
        refine hen.mono ?_
        rintro e X1 ⟨A5, c5, rfl, o5, b5⟩
        rw [hE2.out]
        have kx2 := Lib.hid (kx.out.trans (b5.mono kx.out.size))
        have hB2 := Lib.hid ((b5.block _ (blkX hBn.out)).trans hBn.out)
        have hES2 := Lib.hid (SL.keep hESn.out b5)
        clear  o5 b5 hen
        clear kx hBn hESn; have kx := kx2; have hBn := hB2; have hESn := hES2; clear kx2 hB2 hES2
        generalize (encB ({ m with ro := 0, no := 0 } : Mg)).length = LL at *
        have n0 : X1.cell? ⟨W3.heap.size, 0, none⟩ = some (.int .i64 m.k) := blkC hBn.out 0
        have n1 : X1.cell? ⟨W3.heap.size, 1, none⟩ = some (.int .i64 m.fr) := blkC hBn.out 1
        have n2 : X1.cell? ⟨W3.heap.size, 2, none⟩ = some (.int .i64 m.tt) := blkC hBn.out 2
        have n3 : X1.cell? ⟨W3.heap.size, 3, none⟩ = some (.int .i64 0) := blkC hBn.out 3
        have n4 : X1.cell? ⟨W3.heap.size, 4, none⟩ = some (.int .i64 0) := blkC hBn.out 4
        have n5 : X1.cell? ⟨W3.heap.size, 5, none⟩ = some (.int .i64 m.sl) := blkC hBn.out 5
        have n6 : X1.cell? ⟨W3.heap.size, 6, none⟩ = some (.int .i64 m.nu) := blkC hBn.out 6
        have n7 : X1.cell? ⟨W3.heap.size, 7, none⟩ = some (.string (sOf m.v)) := blkC hBn.out 7
        have n8 : X1.cell? ⟨W3.heap.size, 8, none⟩ = some (.slice A3 m.l.length c3) := blkC hBn.out 8
        have ln := blkX hBn.out
        go_wp2_with (fail)
        refine (textm_any ({ m with ro := 0, no := 0 } : Mg) A3 c3 _ (hL.out.keep kx.out) hESn.out (show m.l.length ≤ 70368744177664 from by have := hI.out.n; omega)).mono ?_
        rintro e W4 ⟨rfl, b5⟩
        have kx4 := Lib.hid (kx.out.trans (b5.mono kx.out.size))
        have hBn_4 := Lib.hid ((b5.block _ (blkX hBn.out)).trans hBn.out)
        have hES2 := Lib.hid (SL.keep hESn.out b5)
        clear hESn; have hESn := hES2; clear hES2
        clear n0 n1 n2 n3 n4 n5 n6 n7 n8 ln 
        clear b5 kx; have kx := kx4; clear kx4
        clear hBn; have hBn := hBn_4; clear hBn_4
        rw [hE2.out, hT2.out]
        have n0 : W4.cell? ⟨W3.heap.size, 0, none⟩ = some (.int .i64 m.k) := blkC hBn.out 0
        have n1 : W4.cell? ⟨W3.heap.size, 1, none⟩ = some (.int .i64 m.fr) := blkC hBn.out 1
        have n2 : W4.cell? ⟨W3.heap.size, 2, none⟩ = some (.int .i64 m.tt) := blkC hBn.out 2
        have n3 : W4.cell? ⟨W3.heap.size, 3, none⟩ = some (.int .i64 0) := blkC hBn.out 3
        have n4 : W4.cell? ⟨W3.heap.size, 4, none⟩ = some (.int .i64 0) := blkC hBn.out 4
        have n5 : W4.cell? ⟨W3.heap.size, 5, none⟩ = some (.int .i64 m.sl) := blkC hBn.out 5
        have n6 : W4.cell? ⟨W3.heap.size, 6, none⟩ = some (.int .i64 m.nu) := blkC hBn.out 6
        have n7 : W4.cell? ⟨W3.heap.size, 7, none⟩ = some (.string (sOf m.v)) := blkC hBn.out 7
        have n8 : W4.cell? ⟨W3.heap.size, 8, none⟩ = some (.slice A3 m.l.length c3) := blkC hBn.out 8
        have ln := blkX hBn.out
        go_wp2_with (fail)
        refine (check_m ({ m with ro := 0, no := 0 } : Mg) A3 c3 _ (hL.out.keep kx.out) hESn.out (show m.l.length ≤ 70368744177664 from by have := hI.out.n; omega)).mono ?_
        rintro e W5 ⟨rfl, b5⟩
        have kx5 := Lib.hid (kx.out.trans (b5.mono kx.out.size))
        have hBn_5 := Lib.hid ((b5.block _ (blkX hBn.out)).trans hBn.out)
        clear n0 n1 n2 n3 n4 n5 n6 n7 n8 ln 
        clear b5 kx; have kx := kx5; clear kx5
        clear hBn; have hBn := hBn_5; clear hBn_5
        rw [hE2.out]
        go_wp2_with (fail)
        refine (works_any _ (hL.out.keep kx.out)).mono ?_
        rintro e W6 ⟨rfl, bv⟩
        have kx6 := Lib.hid (kx.out.trans (bv.mono kx.out.size))
        have hBn_6 := Lib.hid ((bv.block _ (blkX hBn.out)).trans hBn.out)
        clear bv kx; have kx := kx6; clear kx6
        clear hBn; have hBn := hBn_6; clear hBn_6
        go_wp2_with (fail)
        go_ret
        exact ⟨rfl, kx.out⟩
      · have y1 : (m.k == 6) = true := by simp; omega
        have hbad : argOK ({ m with k := 6, ro := 1, no := 0 } : Mg) = false := by
          rw [← Bool.not_eq_true]
          intro hq
          have hq2 := (argOK_parts hq).2.1
          have hu : ¬ uB 6 = true := by decide
          unfold fB at hq2
          dsimp only at hq2
          rw [if_neg hu] at hq2
          simp at hq2
        have hE2 := enc_arg hbad
        have hT2 : txtM ({ m with k := 6, ro := 1, no := 0 } : Mg) = [] := by unfold txtM; rw [hE2]; rfl
        have kn : Below w.heap.size w (W3.alloc (.cells #[.int .i64 6, .int .i64 m.fr, .int .i64 m.tt, .int .i64 1, .int .i64 0, .int .i64 m.sl, .int .i64 m.nu, .string (sOf m.v), .slice A3 m.l.length c3] 28)) := kx.out.alloc kx.out.size _
        have hBm : (W3.alloc (.cells #[.int .i64 6, .int .i64 m.fr, .int .i64 m.tt, .int .i64 1, .int .i64 0, .int .i64 m.sl, .int .i64 m.nu, .string (sOf m.v), .slice A3 m.l.length c3] 28)).heap[W3.heap.size]? = some (.cells #[.int .i64 6, .int .i64 m.fr, .int .i64 m.tt, .int .i64 1, .int .i64 0, .int .i64 m.sl, .int .i64 m.nu, .string (sOf m.v), .slice A3 m.l.length c3] 28 (0, 0)) := hpNew W3 _
        have hESn : ES (W3.alloc (.cells #[.int .i64 6, .int .i64 m.fr, .int .i64 m.tt, .int .i64 1, .int .i64 0, .int .i64 m.sl, .int .i64 m.nu, .string (sOf m.v), .slice A3 m.l.length c3] 28)) A3 m.l.length m.l := SL.keep hES3.out ((Below.refl _ W3).alloc (Nat.le_refl _) _)
        have hen := enc_any ({ m with k := 6, ro := 1, no := 0 } : Mg) A3 c3 (W3.alloc (.cells #[.int .i64 6, .int .i64 m.fr, .int .i64 m.tt, .int .i64 1, .int .i64 0, .int .i64 m.sl, .int .i64 m.nu, .string (sOf m.v), .slice A3 m.l.length c3] 28)) (hL.out.keep kn) hESn (show m.l.length ≤ 70368744177664 from by have := hI.out.n; omega)
        replace kn := Lib.hid kn; replace hBm := Lib.hid hBm; replace hESn := Lib.hid hESn; (try replace hks := Lib.hid hks); replace hbad := Lib.hid hbad; replace hE2 := Lib.hid hE2; replace hT2 := Lib.hid hT2; replace hfit := Lib.hid hfit; replace h0 := Lib.hid h0
        clear harg hnl g0 g1 g2 g3 g4 g5
        go_wp2_with (fail)
        clear kx; have kx := kn; have hBn := hBm; clear kn hBm
        refine hen.mono ?_
        rintro e X1 ⟨A5, c5, rfl, o5, b5⟩
        rw [hE2.out]
        have kx2 := Lib.hid (kx.out.trans (b5.mono kx.out.size))
        have hB2 := Lib.hid ((b5.block _ (blkX hBn.out)).trans hBn.out)
        have hES2 := Lib.hid (SL.keep hESn.out b5)
        clear  o5 b5 hen
        clear kx hBn hESn; have kx := kx2; have hBn := hB2; have hESn := hES2; clear kx2 hB2 hES2
        generalize (encB ({ m with k := 6, ro := 1, no := 0 } : Mg)).length = LL at *
        have n0 : X1.cell? ⟨W3.heap.size, 0, none⟩ = some (.int .i64 6) := blkC hBn.out 0
        have n1 : X1.cell? ⟨W3.heap.size, 1, none⟩ = some (.int .i64 m.fr) := blkC hBn.out 1
        have n2 : X1.cell? ⟨W3.heap.size, 2, none⟩ = some (.int .i64 m.tt) := blkC hBn.out 2
        have n3 : X1.cell? ⟨W3.heap.size, 3, none⟩ = some (.int .i64 1) := blkC hBn.out 3
        have n4 : X1.cell? ⟨W3.heap.size, 4, none⟩ = some (.int .i64 0) := blkC hBn.out 4
        have n5 : X1.cell? ⟨W3.heap.size, 5, none⟩ = some (.int .i64 m.sl) := blkC hBn.out 5
        have n6 : X1.cell? ⟨W3.heap.size, 6, none⟩ = some (.int .i64 m.nu) := blkC hBn.out 6
        have n7 : X1.cell? ⟨W3.heap.size, 7, none⟩ = some (.string (sOf m.v)) := blkC hBn.out 7
        have n8 : X1.cell? ⟨W3.heap.size, 8, none⟩ = some (.slice A3 m.l.length c3) := blkC hBn.out 8
        have ln := blkX hBn.out
        go_wp2_with (fail)
        refine (textm_any ({ m with k := 6, ro := 1, no := 0 } : Mg) A3 c3 _ (hL.out.keep kx.out) hESn.out (show m.l.length ≤ 70368744177664 from by have := hI.out.n; omega)).mono ?_
        rintro e W4 ⟨rfl, b5⟩
        have kx4 := Lib.hid (kx.out.trans (b5.mono kx.out.size))
        have hBn_4 := Lib.hid ((b5.block _ (blkX hBn.out)).trans hBn.out)
        have hES2 := Lib.hid (SL.keep hESn.out b5)
        clear hESn; have hESn := hES2; clear hES2
        clear n0 n1 n2 n3 n4 n5 n6 n7 n8 ln 
        clear b5 kx; have kx := kx4; clear kx4
        clear hBn; have hBn := hBn_4; clear hBn_4
        rw [hE2.out, hT2.out]
        have n0 : W4.cell? ⟨W3.heap.size, 0, none⟩ = some (.int .i64 6) := blkC hBn.out 0
        have n1 : W4.cell? ⟨W3.heap.size, 1, none⟩ = some (.int .i64 m.fr) := blkC hBn.out 1
        have n2 : W4.cell? ⟨W3.heap.size, 2, none⟩ = some (.int .i64 m.tt) := blkC hBn.out 2
        have n3 : W4.cell? ⟨W3.heap.size, 3, none⟩ = some (.int .i64 1) := blkC hBn.out 3
        have n4 : W4.cell? ⟨W3.heap.size, 4, none⟩ = some (.int .i64 0) := blkC hBn.out 4
        have n5 : W4.cell? ⟨W3.heap.size, 5, none⟩ = some (.int .i64 m.sl) := blkC hBn.out 5
        have n6 : W4.cell? ⟨W3.heap.size, 6, none⟩ = some (.int .i64 m.nu) := blkC hBn.out 6
        have n7 : W4.cell? ⟨W3.heap.size, 7, none⟩ = some (.string (sOf m.v)) := blkC hBn.out 7
        have n8 : W4.cell? ⟨W3.heap.size, 8, none⟩ = some (.slice A3 m.l.length c3) := blkC hBn.out 8
        have ln := blkX hBn.out
        go_wp2_with (fail)
        refine (check_m ({ m with k := 6, ro := 1, no := 0 } : Mg) A3 c3 _ (hL.out.keep kx.out) hESn.out (show m.l.length ≤ 70368744177664 from by have := hI.out.n; omega)).mono ?_
        rintro e W5 ⟨rfl, b5⟩
        have kx5 := Lib.hid (kx.out.trans (b5.mono kx.out.size))
        have hBn_5 := Lib.hid ((b5.block _ (blkX hBn.out)).trans hBn.out)
        clear n0 n1 n2 n3 n4 n5 n6 n7 n8 ln 
        clear b5 kx; have kx := kx5; clear kx5
        clear hBn; have hBn := hBn_5; clear hBn_5
        rw [hE2.out]
        go_wp2_with (fail)
        refine (works_any _ (hL.out.keep kx.out)).mono ?_
        rintro e W6 ⟨rfl, bv⟩
        have kx6 := Lib.hid (kx.out.trans (bv.mono kx.out.size))
        have hBn_6 := Lib.hid ((bv.block _ (blkX hBn.out)).trans hBn.out)
        clear bv kx; have kx := kx6; clear kx6
        clear hBn; have hBn := hBn_6; clear hBn_6
        go_wp2_with (fail)
        go_ret
        exact ⟨rfl, kx.out⟩
      · have y1 : (m.k == 6) = false := by simp; omega
        have y1b : (m.k != 6) = true := by simp; omega
        have y2 : (m.k == 8) = true := by simp; omega
        have hbad : argOK ({ m with k := 8, ro := 1, no := 0 } : Mg) = false := by
          rw [← Bool.not_eq_true]
          intro hq
          have hq2 := (argOK_parts hq).2.1
          have hu : ¬ uB 8 = true := by decide
          unfold fB at hq2
          dsimp only at hq2
          rw [if_neg hu] at hq2
          simp at hq2
        have hE2 := enc_arg hbad
        have hT2 : txtM ({ m with k := 8, ro := 1, no := 0 } : Mg) = [] := by unfold txtM; rw [hE2]; rfl
        have kn : Below w.heap.size w (W3.alloc (.cells #[.int .i64 8, .int .i64 m.fr, .int .i64 m.tt, .int .i64 1, .int .i64 0, .int .i64 m.sl, .int .i64 m.nu, .string (sOf m.v), .slice A3 m.l.length c3] 28)) := kx.out.alloc kx.out.size _
        have hBm : (W3.alloc (.cells #[.int .i64 8, .int .i64 m.fr, .int .i64 m.tt, .int .i64 1, .int .i64 0, .int .i64 m.sl, .int .i64 m.nu, .string (sOf m.v), .slice A3 m.l.length c3] 28)).heap[W3.heap.size]? = some (.cells #[.int .i64 8, .int .i64 m.fr, .int .i64 m.tt, .int .i64 1, .int .i64 0, .int .i64 m.sl, .int .i64 m.nu, .string (sOf m.v), .slice A3 m.l.length c3] 28 (0, 0)) := hpNew W3 _
        have hESn : ES (W3.alloc (.cells #[.int .i64 8, .int .i64 m.fr, .int .i64 m.tt, .int .i64 1, .int .i64 0, .int .i64 m.sl, .int .i64 m.nu, .string (sOf m.v), .slice A3 m.l.length c3] 28)) A3 m.l.length m.l := SL.keep hES3.out ((Below.refl _ W3).alloc (Nat.le_refl _) _)
        have hen := enc_any ({ m with k := 8, ro := 1, no := 0 } : Mg) A3 c3 (W3.alloc (.cells #[.int .i64 8, .int .i64 m.fr, .int .i64 m.tt, .int .i64 1, .int .i64 0, .int .i64 m.sl, .int .i64 m.nu, .string (sOf m.v), .slice A3 m.l.length c3] 28)) (hL.out.keep kn) hESn (show m.l.length ≤ 70368744177664 from by have := hI.out.n; omega)
        replace kn := Lib.hid kn; replace hBm := Lib.hid hBm; replace hESn := Lib.hid hESn; (try replace hks := Lib.hid hks); replace hbad := Lib.hid hbad; replace hE2 := Lib.hid hE2; replace hT2 := Lib.hid hT2; replace hfit := Lib.hid hfit; replace h0 := Lib.hid h0
        clear harg hnl g0 g1 g2 g3 g4 g5
        go_wp2_with (fail)
        clear kx; have kx := kn; have hBn := hBm; clear kn hBm
        refine hen.mono ?_
        rintro e X1 ⟨A5, c5, rfl, o5, b5⟩
        rw [hE2.out]
        have kx2 := Lib.hid (kx.out.trans (b5.mono kx.out.size))
        have hB2 := Lib.hid ((b5.block _ (blkX hBn.out)).trans hBn.out)
        have hES2 := Lib.hid (SL.keep hESn.out b5)
        clear  o5 b5 hen
        clear kx hBn hESn; have kx := kx2; have hBn := hB2; have hESn := hES2; clear kx2 hB2 hES2
        generalize (encB ({ m with k := 8, ro := 1, no := 0 } : Mg)).length = LL at *
        have n0 : X1.cell? ⟨W3.heap.size, 0, none⟩ = some (.int .i64 8) := blkC hBn.out 0
        have n1 : X1.cell? ⟨W3.heap.size, 1, none⟩ = some (.int .i64 m.fr) := blkC hBn.out 1
        have n2 : X1.cell? ⟨W3.heap.size, 2, none⟩ = some (.int .i64 m.tt) := blkC hBn.out 2
        have n3 : X1.cell? ⟨W3.heap.size, 3, none⟩ = some (.int .i64 1) := blkC hBn.out 3
        have n4 : X1.cell? ⟨W3.heap.size, 4, none⟩ = some (.int .i64 0) := blkC hBn.out 4
        have n5 : X1.cell? ⟨W3.heap.size, 5, none⟩ = some (.int .i64 m.sl) := blkC hBn.out 5
        have n6 : X1.cell? ⟨W3.heap.size, 6, none⟩ = some (.int .i64 m.nu) := blkC hBn.out 6
        have n7 : X1.cell? ⟨W3.heap.size, 7, none⟩ = some (.string (sOf m.v)) := blkC hBn.out 7
        have n8 : X1.cell? ⟨W3.heap.size, 8, none⟩ = some (.slice A3 m.l.length c3) := blkC hBn.out 8
        have ln := blkX hBn.out
        go_wp2_with (fail)
        refine (textm_any ({ m with k := 8, ro := 1, no := 0 } : Mg) A3 c3 _ (hL.out.keep kx.out) hESn.out (show m.l.length ≤ 70368744177664 from by have := hI.out.n; omega)).mono ?_
        rintro e W4 ⟨rfl, b5⟩
        have kx4 := Lib.hid (kx.out.trans (b5.mono kx.out.size))
        have hBn_4 := Lib.hid ((b5.block _ (blkX hBn.out)).trans hBn.out)
        have hES2 := Lib.hid (SL.keep hESn.out b5)
        clear hESn; have hESn := hES2; clear hES2
        clear n0 n1 n2 n3 n4 n5 n6 n7 n8 ln 
        clear b5 kx; have kx := kx4; clear kx4
        clear hBn; have hBn := hBn_4; clear hBn_4
        rw [hE2.out, hT2.out]
        have n0 : W4.cell? ⟨W3.heap.size, 0, none⟩ = some (.int .i64 8) := blkC hBn.out 0
        have n1 : W4.cell? ⟨W3.heap.size, 1, none⟩ = some (.int .i64 m.fr) := blkC hBn.out 1
        have n2 : W4.cell? ⟨W3.heap.size, 2, none⟩ = some (.int .i64 m.tt) := blkC hBn.out 2
        have n3 : W4.cell? ⟨W3.heap.size, 3, none⟩ = some (.int .i64 1) := blkC hBn.out 3
        have n4 : W4.cell? ⟨W3.heap.size, 4, none⟩ = some (.int .i64 0) := blkC hBn.out 4
        have n5 : W4.cell? ⟨W3.heap.size, 5, none⟩ = some (.int .i64 m.sl) := blkC hBn.out 5
        have n6 : W4.cell? ⟨W3.heap.size, 6, none⟩ = some (.int .i64 m.nu) := blkC hBn.out 6
        have n7 : W4.cell? ⟨W3.heap.size, 7, none⟩ = some (.string (sOf m.v)) := blkC hBn.out 7
        have n8 : W4.cell? ⟨W3.heap.size, 8, none⟩ = some (.slice A3 m.l.length c3) := blkC hBn.out 8
        have ln := blkX hBn.out
        go_wp2_with (fail)
        refine (check_m ({ m with k := 8, ro := 1, no := 0 } : Mg) A3 c3 _ (hL.out.keep kx.out) hESn.out (show m.l.length ≤ 70368744177664 from by have := hI.out.n; omega)).mono ?_
        rintro e W5 ⟨rfl, b5⟩
        have kx5 := Lib.hid (kx.out.trans (b5.mono kx.out.size))
        have hBn_5 := Lib.hid ((b5.block _ (blkX hBn.out)).trans hBn.out)
        clear n0 n1 n2 n3 n4 n5 n6 n7 n8 ln 
        clear b5 kx; have kx := kx5; clear kx5
        clear hBn; have hBn := hBn_5; clear hBn_5
        rw [hE2.out]
        go_wp2_with (fail)
        refine (works_any _ (hL.out.keep kx.out)).mono ?_
        rintro e W6 ⟨rfl, bv⟩
        have kx6 := Lib.hid (kx.out.trans (bv.mono kx.out.size))
        have hBn_6 := Lib.hid ((bv.block _ (blkX hBn.out)).trans hBn.out)
        clear bv kx; have kx := kx6; clear kx6
        clear hBn; have hBn := hBn_6; clear hBn_6
        go_wp2_with (fail)
        go_ret
        exact ⟨rfl, kx.out⟩
      · have y1 : (m.k == 6) = false := by simp; omega
        have y1b : (m.k != 6) = true := by simp; omega
        have y2 : (m.k == 8) = false := by simp; omega
        have y2b : (m.k != 8) = true := by simp; omega
        have y3 : ¬ m.k < 9 := by omega
        have hbad : argOK ({ m with ro := 1, no := 0 } : Mg) = false := by
          rw [← Bool.not_eq_true]
          intro hq
          have hq2 := (argOK_parts hq).2.1
          have hu : ¬ uB m.k = true := by unfold uB; simp; omega
          unfold fB at hq2
          dsimp only at hq2
          rw [if_neg hu] at hq2
          simp at hq2
        have hE2 := enc_arg hbad
        have hT2 : txtM ({ m with ro := 1, no := 0 } : Mg) = [] := by unfold txtM; rw [hE2]; rfl
        have kn : Below w.heap.size w (W3.alloc (.cells #[.int .i64 m.k, .int .i64 m.fr, .int .i64 m.tt, .int .i64 1, .int .i64 0, .int .i64 m.sl, .int .i64 m.nu, .string (sOf m.v), .slice A3 m.l.length c3] 28)) := kx.out.alloc kx.out.size _
        have hBm : (W3.alloc (.cells #[.int .i64 m.k, .int .i64 m.fr, .int .i64 m.tt, .int .i64 1, .int .i64 0, .int .i64 m.sl, .int .i64 m.nu, .string (sOf m.v), .slice A3 m.l.length c3] 28)).heap[W3.heap.size]? = some (.cells #[.int .i64 m.k, .int .i64 m.fr, .int .i64 m.tt, .int .i64 1, .int .i64 0, .int .i64 m.sl, .int .i64 m.nu, .string (sOf m.v), .slice A3 m.l.length c3] 28 (0, 0)) := hpNew W3 _
        have hESn : ES (W3.alloc (.cells #[.int .i64 m.k, .int .i64 m.fr, .int .i64 m.tt, .int .i64 1, .int .i64 0, .int .i64 m.sl, .int .i64 m.nu, .string (sOf m.v), .slice A3 m.l.length c3] 28)) A3 m.l.length m.l := SL.keep hES3.out ((Below.refl _ W3).alloc (Nat.le_refl _) _)
        have hen := enc_any ({ m with ro := 1, no := 0 } : Mg) A3 c3 (W3.alloc (.cells #[.int .i64 m.k, .int .i64 m.fr, .int .i64 m.tt, .int .i64 1, .int .i64 0, .int .i64 m.sl, .int .i64 m.nu, .string (sOf m.v), .slice A3 m.l.length c3] 28)) (hL.out.keep kn) hESn (show m.l.length ≤ 70368744177664 from by have := hI.out.n; omega)
        replace kn := Lib.hid kn; replace hBm := Lib.hid hBm; replace hESn := Lib.hid hESn; (try replace hks := Lib.hid hks); replace hbad := Lib.hid hbad; replace hE2 := Lib.hid hE2; replace hT2 := Lib.hid hT2; replace hfit := Lib.hid hfit; replace h0 := Lib.hid h0
        clear harg hnl g0 g1 g2 g3 g4 g5
        go_wp2_with (fail)
        clear kx; have kx := kn; have hBn := hBm; clear kn hBm
        refine hen.mono ?_
        rintro e X1 ⟨A5, c5, rfl, o5, b5⟩
        rw [hE2.out]
        have kx2 := Lib.hid (kx.out.trans (b5.mono kx.out.size))
        have hB2 := Lib.hid ((b5.block _ (blkX hBn.out)).trans hBn.out)
        have hES2 := Lib.hid (SL.keep hESn.out b5)
        clear  o5 b5 hen
        clear kx hBn hESn; have kx := kx2; have hBn := hB2; have hESn := hES2; clear kx2 hB2 hES2
        generalize (encB ({ m with ro := 1, no := 0 } : Mg)).length = LL at *
        have n0 : X1.cell? ⟨W3.heap.size, 0, none⟩ = some (.int .i64 m.k) := blkC hBn.out 0
        have n1 : X1.cell? ⟨W3.heap.size, 1, none⟩ = some (.int .i64 m.fr) := blkC hBn.out 1
        have n2 : X1.cell? ⟨W3.heap.size, 2, none⟩ = some (.int .i64 m.tt) := blkC hBn.out 2
        have n3 : X1.cell? ⟨W3.heap.size, 3, none⟩ = some (.int .i64 1) := blkC hBn.out 3
        have n4 : X1.cell? ⟨W3.heap.size, 4, none⟩ = some (.int .i64 0) := blkC hBn.out 4
        have n5 : X1.cell? ⟨W3.heap.size, 5, none⟩ = some (.int .i64 m.sl) := blkC hBn.out 5
        have n6 : X1.cell? ⟨W3.heap.size, 6, none⟩ = some (.int .i64 m.nu) := blkC hBn.out 6
        have n7 : X1.cell? ⟨W3.heap.size, 7, none⟩ = some (.string (sOf m.v)) := blkC hBn.out 7
        have n8 : X1.cell? ⟨W3.heap.size, 8, none⟩ = some (.slice A3 m.l.length c3) := blkC hBn.out 8
        have ln := blkX hBn.out
        go_wp2_with (fail)
        refine (textm_any ({ m with ro := 1, no := 0 } : Mg) A3 c3 _ (hL.out.keep kx.out) hESn.out (show m.l.length ≤ 70368744177664 from by have := hI.out.n; omega)).mono ?_
        rintro e W4 ⟨rfl, b5⟩
        have kx4 := Lib.hid (kx.out.trans (b5.mono kx.out.size))
        have hBn_4 := Lib.hid ((b5.block _ (blkX hBn.out)).trans hBn.out)
        have hES2 := Lib.hid (SL.keep hESn.out b5)
        clear hESn; have hESn := hES2; clear hES2
        clear n0 n1 n2 n3 n4 n5 n6 n7 n8 ln 
        clear b5 kx; have kx := kx4; clear kx4
        clear hBn; have hBn := hBn_4; clear hBn_4
        rw [hE2.out, hT2.out]
        have n0 : W4.cell? ⟨W3.heap.size, 0, none⟩ = some (.int .i64 m.k) := blkC hBn.out 0
        have n1 : W4.cell? ⟨W3.heap.size, 1, none⟩ = some (.int .i64 m.fr) := blkC hBn.out 1
        have n2 : W4.cell? ⟨W3.heap.size, 2, none⟩ = some (.int .i64 m.tt) := blkC hBn.out 2
        have n3 : W4.cell? ⟨W3.heap.size, 3, none⟩ = some (.int .i64 1) := blkC hBn.out 3
        have n4 : W4.cell? ⟨W3.heap.size, 4, none⟩ = some (.int .i64 0) := blkC hBn.out 4
        have n5 : W4.cell? ⟨W3.heap.size, 5, none⟩ = some (.int .i64 m.sl) := blkC hBn.out 5
        have n6 : W4.cell? ⟨W3.heap.size, 6, none⟩ = some (.int .i64 m.nu) := blkC hBn.out 6
        have n7 : W4.cell? ⟨W3.heap.size, 7, none⟩ = some (.string (sOf m.v)) := blkC hBn.out 7
        have n8 : W4.cell? ⟨W3.heap.size, 8, none⟩ = some (.slice A3 m.l.length c3) := blkC hBn.out 8
        have ln := blkX hBn.out
        go_wp2_with (fail)
        refine (check_m ({ m with ro := 1, no := 0 } : Mg) A3 c3 _ (hL.out.keep kx.out) hESn.out (show m.l.length ≤ 70368744177664 from by have := hI.out.n; omega)).mono ?_
        rintro e W5 ⟨rfl, b5⟩
        have kx5 := Lib.hid (kx.out.trans (b5.mono kx.out.size))
        have hBn_5 := Lib.hid ((b5.block _ (blkX hBn.out)).trans hBn.out)
        clear n0 n1 n2 n3 n4 n5 n6 n7 n8 ln 
        clear b5 kx; have kx := kx5; clear kx5
        clear hBn; have hBn := hBn_5; clear hBn_5
        rw [hE2.out]
        go_wp2_with (fail)
        refine (works_any _ (hL.out.keep kx.out)).mono ?_
        rintro e W6 ⟨rfl, bv⟩
        have kx6 := Lib.hid (kx.out.trans (bv.mono kx.out.size))
        have hBn_6 := Lib.hid ((bv.block _ (blkX hBn.out)).trans hBn.out)
        clear bv kx; have kx := kx6; clear kx6
        clear hBn; have hBn := hBn_6; clear hBn_6
        go_wp2_with (fail)
        go_ret
        exact ⟨rfl, kx.out⟩
    · have r1 : (qn : Int) % 9 = 5 := by omega
      have r2 : (qn : Int).tmod 9 = 5 := by rw [show (9 : Int) = ((9 : Nat) : Int) from rfl, ← Int.ofNat_tmod, h9]; rfl
      have hbad : argOK ({ m with sl := -1 } : Mg) = false := by
        rw [← Bool.not_eq_true]
        intro hq
        have hq2 := (argOK_parts hq).2.2.1
        unfold fS at hq2
        dsimp only at hq2
        split at hq2 <;> simp at hq2
      have hE2 := enc_arg hbad
      have hT2 : txtM ({ m with sl := -1 } : Mg) = [] := by unfold txtM; rw [hE2]; rfl
      have kn : Below w.heap.size w (W3.alloc (.cells #[.int .i64 m.k, .int .i64 m.fr, .int .i64 m.tt, .int .i64 m.ro, .int .i64 m.no, .int .i64 (-1), .int .i64 m.nu, .string (sOf m.v), .slice A3 m.l.length c3] 28)) := kx.out.alloc kx.out.size _
      have hBm : (W3.alloc (.cells #[.int .i64 m.k, .int .i64 m.fr, .int .i64 m.tt, .int .i64 m.ro, .int .i64 m.no, .int .i64 (-1), .int .i64 m.nu, .string (sOf m.v), .slice A3 m.l.length c3] 28)).heap[W3.heap.size]? = some (.cells #[.int .i64 m.k, .int .i64 m.fr, .int .i64 m.tt, .int .i64 m.ro, .int .i64 m.no, .int .i64 (-1), .int .i64 m.nu, .string (sOf m.v), .slice A3 m.l.length c3] 28 (0, 0)) := hpNew W3 _
      have hESn : ES (W3.alloc (.cells #[.int .i64 m.k, .int .i64 m.fr, .int .i64 m.tt, .int .i64 m.ro, .int .i64 m.no, .int .i64 (-1), .int .i64 m.nu, .string (sOf m.v), .slice A3 m.l.length c3] 28)) A3 m.l.length m.l := SL.keep hES3.out ((Below.refl _ W3).alloc (Nat.le_refl _) _)
      have hen := enc_any ({ m with sl := -1 } : Mg) A3 c3 (W3.alloc (.cells #[.int .i64 m.k, .int .i64 m.fr, .int .i64 m.tt, .int .i64 m.ro, .int .i64 m.no, .int .i64 (-1), .int .i64 m.nu, .string (sOf m.v), .slice A3 m.l.length c3] 28)) (hL.out.keep kn) hESn (show m.l.length ≤ 70368744177664 from by have := hI.out.n; omega)
      replace kn := Lib.hid kn; replace hBm := Lib.hid hBm; replace hESn := Lib.hid hESn; (try replace hks := Lib.hid hks); replace hbad := Lib.hid hbad; replace hE2 := Lib.hid hE2; replace hT2 := Lib.hid hT2; replace hfit := Lib.hid hfit; replace h0 := Lib.hid h0
      clear harg hnl g0 g1 g2 g3 g4 g5
      go_wp2_with (fail)
      clear kx; have kx := kn; have hBn := hBm; clear kn hBm
      refine hen.mono ?_
      rintro e X1 ⟨A5, c5, rfl, o5, b5⟩
      rw [hE2.out]
      have kx2 := Lib.hid (kx.out.trans (b5.mono kx.out.size))
      have hB2 := Lib.hid ((b5.block _ (blkX hBn.out)).trans hBn.out)
      have hES2 := Lib.hid (SL.keep hESn.out b5)
      clear  o5 b5 hen
      clear kx hBn hESn; have kx := kx2; have hBn := hB2; have hESn := hES2; clear kx2 hB2 hES2
      generalize (encB ({ m with sl := -1 } : Mg)).length = LL at *
      have n0 : X1.cell? ⟨W3.heap.size, 0, none⟩ = some (.int .i64 m.k) := blkC hBn.out 0
      have n1 : X1.cell? ⟨W3.heap.size, 1, none⟩ = some (.int .i64 m.fr) := blkC hBn.out 1
      have n2 : X1.cell? ⟨W3.heap.size, 2, none⟩ = some (.int .i64 m.tt) := blkC hBn.out 2
      have n3 : X1.cell? ⟨W3.heap.size, 3, none⟩ = some (.int .i64 m.ro) := blkC hBn.out 3
      have n4 : X1.cell? ⟨W3.heap.size, 4, none⟩ = some (.int .i64 m.no) := blkC hBn.out 4
      have n5 : X1.cell? ⟨W3.heap.size, 5, none⟩ = some (.int .i64 (-1)) := blkC hBn.out 5
      have n6 : X1.cell? ⟨W3.heap.size, 6, none⟩ = some (.int .i64 m.nu) := blkC hBn.out 6
      have n7 : X1.cell? ⟨W3.heap.size, 7, none⟩ = some (.string (sOf m.v)) := blkC hBn.out 7
      have n8 : X1.cell? ⟨W3.heap.size, 8, none⟩ = some (.slice A3 m.l.length c3) := blkC hBn.out 8
      have ln := blkX hBn.out
      go_wp2_with (fail)
      refine (textm_any ({ m with sl := -1 } : Mg) A3 c3 _ (hL.out.keep kx.out) hESn.out (show m.l.length ≤ 70368744177664 from by have := hI.out.n; omega)).mono ?_
      rintro e W4 ⟨rfl, b5⟩
      have kx4 := Lib.hid (kx.out.trans (b5.mono kx.out.size))
      have hBn_4 := Lib.hid ((b5.block _ (blkX hBn.out)).trans hBn.out)
      have hES2 := Lib.hid (SL.keep hESn.out b5)
      clear hESn; have hESn := hES2; clear hES2
      clear n0 n1 n2 n3 n4 n5 n6 n7 n8 ln 
      clear b5 kx; have kx := kx4; clear kx4
      clear hBn; have hBn := hBn_4; clear hBn_4
      rw [hE2.out, hT2.out]
      have n0 : W4.cell? ⟨W3.heap.size, 0, none⟩ = some (.int .i64 m.k) := blkC hBn.out 0
      have n1 : W4.cell? ⟨W3.heap.size, 1, none⟩ = some (.int .i64 m.fr) := blkC hBn.out 1
      have n2 : W4.cell? ⟨W3.heap.size, 2, none⟩ = some (.int .i64 m.tt) := blkC hBn.out 2
      have n3 : W4.cell? ⟨W3.heap.size, 3, none⟩ = some (.int .i64 m.ro) := blkC hBn.out 3
      have n4 : W4.cell? ⟨W3.heap.size, 4, none⟩ = some (.int .i64 m.no) := blkC hBn.out 4
      have n5 : W4.cell? ⟨W3.heap.size, 5, none⟩ = some (.int .i64 (-1)) := blkC hBn.out 5
      have n6 : W4.cell? ⟨W3.heap.size, 6, none⟩ = some (.int .i64 m.nu) := blkC hBn.out 6
      have n7 : W4.cell? ⟨W3.heap.size, 7, none⟩ = some (.string (sOf m.v)) := blkC hBn.out 7
      have n8 : W4.cell? ⟨W3.heap.size, 8, none⟩ = some (.slice A3 m.l.length c3) := blkC hBn.out 8
      have ln := blkX hBn.out
      go_wp2_with (fail)
      refine (check_m ({ m with sl := -1 } : Mg) A3 c3 _ (hL.out.keep kx.out) hESn.out (show m.l.length ≤ 70368744177664 from by have := hI.out.n; omega)).mono ?_
      rintro e W5 ⟨rfl, b5⟩
      have kx5 := Lib.hid (kx.out.trans (b5.mono kx.out.size))
      have hBn_5 := Lib.hid ((b5.block _ (blkX hBn.out)).trans hBn.out)
      clear n0 n1 n2 n3 n4 n5 n6 n7 n8 ln 
      clear b5 kx; have kx := kx5; clear kx5
      clear hBn; have hBn := hBn_5; clear hBn_5
      rw [hE2.out]
      go_wp2_with (fail)
      refine (works_any _ (hL.out.keep kx.out)).mono ?_
      rintro e W6 ⟨rfl, bv⟩
      have kx6 := Lib.hid (kx.out.trans (bv.mono kx.out.size))
      have hBn_6 := Lib.hid ((bv.block _ (blkX hBn.out)).trans hBn.out)
      clear bv kx; have kx := kx6; clear kx6
      clear hBn; have hBn := hBn_6; clear hBn_6
      go_wp2_with (fail)
      go_ret
      exact ⟨rfl, kx.out⟩
    · have r1 : (qn : Int) % 9 = 6 := by omega
      have r2 : (qn : Int).tmod 9 = 6 := by rw [show (9 : Int) = ((9 : Nat) : Int) from rfl, ← Int.ofNat_tmod, h9]; rfl
      have hbad : argOK ({ m with nu := -1 } : Mg) = false := by
        rw [← Bool.not_eq_true]
        intro hq
        have hq2 := (argOK_parts hq).2.2.2.1
        have hlo : 0 ≤ kLo m.k := by unfold kLo; split <;> omega
        unfold fN at hq2
        dsimp only at hq2
        split at hq2
        · simp at hq2; omega
        · simp at hq2
      have hE2 := enc_arg hbad
      have hT2 : txtM ({ m with nu := -1 } : Mg) = [] := by unfold txtM; rw [hE2]; rfl
      have kn : Below w.heap.size w (W3.alloc (.cells #[.int .i64 m.k, .int .i64 m.fr, .int .i64 m.tt, .int .i64 m.ro, .int .i64 m.no, .int .i64 m.sl, .int .i64 (-1), .string (sOf m.v), .slice A3 m.l.length c3] 28)) := kx.out.alloc kx.out.size _
      have hBm : (W3.alloc (.cells #[.int .i64 m.k, .int .i64 m.fr, .int .i64 m.tt, .int .i64 m.ro, .int .i64 m.no, .int .i64 m.sl, .int .i64 (-1), .string (sOf m.v), .slice A3 m.l.length c3] 28)).heap[W3.heap.size]? = some (.cells #[.int .i64 m.k, .int .i64 m.fr, .int .i64 m.tt, .int .i64 m.ro, .int .i64 m.no, .int .i64 m.sl, .int .i64 (-1), .string (sOf m.v), .slice A3 m.l.length c3] 28 (0, 0)) := hpNew W3 _
      have hESn : ES (W3.alloc (.cells #[.int .i64 m.k, .int .i64 m.fr, .int .i64 m.tt, .int .i64 m.ro, .int .i64 m.no, .int .i64 m.sl, .int .i64 (-1), .string (sOf m.v), .slice A3 m.l.length c3] 28)) A3 m.l.length m.l := SL.keep hES3.out ((Below.refl _ W3).alloc (Nat.le_refl _) _)
      have hen := enc_any ({ m with nu := -1 } : Mg) A3 c3 (W3.alloc (.cells #[.int .i64 m.k, .int .i64 m.fr, .int .i64 m.tt, .int .i64 m.ro, .int .i64 m.no, .int .i64 m.sl, .int .i64 (-1), .string (sOf m.v), .slice A3 m.l.length c3] 28)) (hL.out.keep kn) hESn (show m.l.length ≤ 70368744177664 from by have := hI.out.n; omega)
      replace kn := Lib.hid kn; replace hBm := Lib.hid hBm; replace hESn := Lib.hid hESn; (try replace hks := Lib.hid hks); replace hbad := Lib.hid hbad; replace hE2 := Lib.hid hE2; replace hT2 := Lib.hid hT2; replace hfit := Lib.hid hfit; replace h0 := Lib.hid h0
      clear harg hnl g0 g1 g2 g3 g4 g5
      go_wp2_with (fail)
      clear kx; have kx := kn; have hBn := hBm; clear kn hBm
      refine hen.mono ?_
      rintro e X1 ⟨A5, c5, rfl, o5, b5⟩
      rw [hE2.out]
      have kx2 := Lib.hid (kx.out.trans (b5.mono kx.out.size))
      have hB2 := Lib.hid ((b5.block _ (blkX hBn.out)).trans hBn.out)
      have hES2 := Lib.hid (SL.keep hESn.out b5)
      clear  o5 b5 hen
      clear kx hBn hESn; have kx := kx2; have hBn := hB2; have hESn := hES2; clear kx2 hB2 hES2
      generalize (encB ({ m with nu := -1 } : Mg)).length = LL at *
      have n0 : X1.cell? ⟨W3.heap.size, 0, none⟩ = some (.int .i64 m.k) := blkC hBn.out 0
      have n1 : X1.cell? ⟨W3.heap.size, 1, none⟩ = some (.int .i64 m.fr) := blkC hBn.out 1
      have n2 : X1.cell? ⟨W3.heap.size, 2, none⟩ = some (.int .i64 m.tt) := blkC hBn.out 2
      have n3 : X1.cell? ⟨W3.heap.size, 3, none⟩ = some (.int .i64 m.ro) := blkC hBn.out 3
      have n4 : X1.cell? ⟨W3.heap.size, 4, none⟩ = some (.int .i64 m.no) := blkC hBn.out 4
      have n5 : X1.cell? ⟨W3.heap.size, 5, none⟩ = some (.int .i64 m.sl) := blkC hBn.out 5
      have n6 : X1.cell? ⟨W3.heap.size, 6, none⟩ = some (.int .i64 (-1)) := blkC hBn.out 6
      have n7 : X1.cell? ⟨W3.heap.size, 7, none⟩ = some (.string (sOf m.v)) := blkC hBn.out 7
      have n8 : X1.cell? ⟨W3.heap.size, 8, none⟩ = some (.slice A3 m.l.length c3) := blkC hBn.out 8
      have ln := blkX hBn.out
      go_wp2_with (fail)
      refine (textm_any ({ m with nu := -1 } : Mg) A3 c3 _ (hL.out.keep kx.out) hESn.out (show m.l.length ≤ 70368744177664 from by have := hI.out.n; omega)).mono ?_
      rintro e W4 ⟨rfl, b5⟩
      have kx4 := Lib.hid (kx.out.trans (b5.mono kx.out.size))
      have hBn_4 := Lib.hid ((b5.block _ (blkX hBn.out)).trans hBn.out)
      have hES2 := Lib.hid (SL.keep hESn.out b5)
      clear hESn; have hESn := hES2; clear hES2
      clear n0 n1 n2 n3 n4 n5 n6 n7 n8 ln 
      clear b5 kx; have kx := kx4; clear kx4
      clear hBn; have hBn := hBn_4; clear hBn_4
      rw [hE2.out, hT2.out]
      have n0 : W4.cell? ⟨W3.heap.size, 0, none⟩ = some (.int .i64 m.k) := blkC hBn.out 0
      have n1 : W4.cell? ⟨W3.heap.size, 1, none⟩ = some (.int .i64 m.fr) := blkC hBn.out 1
      have n2 : W4.cell? ⟨W3.heap.size, 2, none⟩ = some (.int .i64 m.tt) := blkC hBn.out 2
      have n3 : W4.cell? ⟨W3.heap.size, 3, none⟩ = some (.int .i64 m.ro) := blkC hBn.out 3
      have n4 : W4.cell? ⟨W3.heap.size, 4, none⟩ = some (.int .i64 m.no) := blkC hBn.out 4
      have n5 : W4.cell? ⟨W3.heap.size, 5, none⟩ = some (.int .i64 m.sl) := blkC hBn.out 5
      have n6 : W4.cell? ⟨W3.heap.size, 6, none⟩ = some (.int .i64 (-1)) := blkC hBn.out 6
      have n7 : W4.cell? ⟨W3.heap.size, 7, none⟩ = some (.string (sOf m.v)) := blkC hBn.out 7
      have n8 : W4.cell? ⟨W3.heap.size, 8, none⟩ = some (.slice A3 m.l.length c3) := blkC hBn.out 8
      have ln := blkX hBn.out
      go_wp2_with (fail)
      refine (check_m ({ m with nu := -1 } : Mg) A3 c3 _ (hL.out.keep kx.out) hESn.out (show m.l.length ≤ 70368744177664 from by have := hI.out.n; omega)).mono ?_
      rintro e W5 ⟨rfl, b5⟩
      have kx5 := Lib.hid (kx.out.trans (b5.mono kx.out.size))
      have hBn_5 := Lib.hid ((b5.block _ (blkX hBn.out)).trans hBn.out)
      clear n0 n1 n2 n3 n4 n5 n6 n7 n8 ln 
      clear b5 kx; have kx := kx5; clear kx5
      clear hBn; have hBn := hBn_5; clear hBn_5
      rw [hE2.out]
      go_wp2_with (fail)
      refine (works_any _ (hL.out.keep kx.out)).mono ?_
      rintro e W6 ⟨rfl, bv⟩
      have kx6 := Lib.hid (kx.out.trans (bv.mono kx.out.size))
      have hBn_6 := Lib.hid ((bv.block _ (blkX hBn.out)).trans hBn.out)
      clear bv kx; have kx := kx6; clear kx6
      clear hBn; have hBn := hBn_6; clear hBn_6
      go_wp2_with (fail)
      go_ret
      exact ⟨rfl, kx.out⟩
    · have r1 : (qn : Int) % 9 = 7 := by omega
      have r2 : (qn : Int).tmod 9 = 7 := by rw [show (9 : Int) = ((9 : Nat) : Int) from rfl, ← Int.ofNat_tmod, h9]; rfl
      have hks : (m.k = 4) ∨ (m.k = 6) ∨ (m.k = 9 ∨ m.k = 10 ∨ m.k = 11) ∨ (m.k = 1 ∨ m.k = 2 ∨ m.k = 3 ∨ m.k = 5 ∨ m.k = 7 ∨ m.k = 8) := by omega
      rcases hks with hks | hks | hks | hks
      · have y1 : (m.k == 4) = true := by simp; omega
        have hbad : argOK ({ m with sl := 5000 } : Mg) = false := by
          rw [← Bool.not_eq_true]
          intro hq
          have hq2 := (argOK_parts hq).2.2.1
          have hks2 : kSl m.k ≤ 4096 := by unfold kSl; split <;> (try split) <;> omega
          unfold fS at hq2
          dsimp only at hq2
          split at hq2
          · simp at hq2; omega
          · simp at hq2
        have hE2 := enc_arg hbad
        have hT2 : txtM ({ m with sl := 5000 } : Mg) = [] := by unfold txtM; rw [hE2]; rfl
        have kn : Below w.heap.size w (W3.alloc (.cells #[.int .i64 m.k, .int .i64 m.fr, .int .i64 m.tt, .int .i64 m.ro, .int .i64 m.no, .int .i64 5000, .int .i64 m.nu, .string (sOf m.v), .slice A3 m.l.length c3] 28)) := kx.out.alloc kx.out.size _
        have hBm : (W3.alloc (.cells #[.int .i64 m.k, .int .i64 m.fr, .int .i64 m.tt, .int .i64 m.ro, .int .i64 m.no, .int .i64 5000, .int .i64 m.nu, .string (sOf m.v), .slice A3 m.l.length c3] 28)).heap[W3.heap.size]? = some (.cells #[.int .i64 m.k, .int .i64 m.fr, .int .i64 m.tt, .int .i64 m.ro, .int .i64 m.no, .int .i64 5000, .int .i64 m.nu, .string (sOf m.v), .slice A3 m.l.length c3] 28 (0, 0)) := hpNew W3 _
        have hESn : ES (W3.alloc (.cells #[.int .i64 m.k, .int .i64 m.fr, .int .i64 m.tt, .int .i64 m.ro, .int .i64 m.no, .int .i64 5000, .int .i64 m.nu, .string (sOf m.v), .slice A3 m.l.length c3] 28)) A3 m.l.length m.l := SL.keep hES3.out ((Below.refl _ W3).alloc (Nat.le_refl _) _)
        have hen := enc_any ({ m with sl := 5000 } : Mg) A3 c3 (W3.alloc (.cells #[.int .i64 m.k, .int .i64 m.fr, .int .i64 m.tt, .int .i64 m.ro, .int .i64 m.no, .int .i64 5000, .int .i64 m.nu, .string (sOf m.v), .slice A3 m.l.length c3] 28)) (hL.out.keep kn) hESn (show m.l.length ≤ 70368744177664 from by have := hI.out.n; omega)
        replace kn := Lib.hid kn; replace hBm := Lib.hid hBm; replace hESn := Lib.hid hESn; (try replace hks := Lib.hid hks); replace hbad := Lib.hid hbad; replace hE2 := Lib.hid hE2; replace hT2 := Lib.hid hT2; replace hfit := Lib.hid hfit; replace h0 := Lib.hid h0
        clear harg hnl g0 g1 g2 g3 g4 g5
        go_wp2_with (fail)
        clear kx; have kx := kn; have hBn := hBm; clear kn hBm
        refine hen.mono ?_
        rintro e X1 ⟨A5, c5, rfl, o5, b5⟩
        rw [hE2.out]
        have kx2 := Lib.hid (kx.out.trans (b5.mono kx.out.size))
        have hB2 := Lib.hid ((b5.block _ (blkX hBn.out)).trans hBn.out)
        have hES2 := Lib.hid (SL.keep hESn.out b5)
        clear  o5 b5 hen
        clear kx hBn hESn; have kx := kx2; have hBn := hB2; have hESn := hES2; clear kx2 hB2 hES2
        generalize (encB ({ m with sl := 5000 } : Mg)).length = LL at *
        have n0 : X1.cell? ⟨W3.heap.size, 0, none⟩ = some (.int .i64 m.k) := blkC hBn.out 0
        have n1 : X1.cell? ⟨W3.heap.size, 1, none⟩ = some (.int .i64 m.fr) := blkC hBn.out 1
        have n2 : X1.cell? ⟨W3.heap.size, 2, none⟩ = some (.int .i64 m.tt) := blkC hBn.out 2
        have n3 : X1.cell? ⟨W3.heap.size, 3, none⟩ = some (.int .i64 m.ro) := blkC hBn.out 3
        have n4 : X1.cell? ⟨W3.heap.size, 4, none⟩ = some (.int .i64 m.no) := blkC hBn.out 4
        have n5 : X1.cell? ⟨W3.heap.size, 5, none⟩ = some (.int .i64 5000) := blkC hBn.out 5
        have n6 : X1.cell? ⟨W3.heap.size, 6, none⟩ = some (.int .i64 m.nu) := blkC hBn.out 6
        have n7 : X1.cell? ⟨W3.heap.size, 7, none⟩ = some (.string (sOf m.v)) := blkC hBn.out 7
        have n8 : X1.cell? ⟨W3.heap.size, 8, none⟩ = some (.slice A3 m.l.length c3) := blkC hBn.out 8
        have ln := blkX hBn.out
        go_wp2_with (fail)
        refine (textm_any ({ m with sl := 5000 } : Mg) A3 c3 _ (hL.out.keep kx.out) hESn.out (show m.l.length ≤ 70368744177664 from by have := hI.out.n; omega)).mono ?_
        rintro e W4 ⟨rfl, b5⟩
        have kx4 := Lib.hid (kx.out.trans (b5.mono kx.out.size))
        have hBn_4 := Lib.hid ((b5.block _ (blkX hBn.out)).trans hBn.out)
        have hES2 := Lib.hid (SL.keep hESn.out b5)
        clear hESn; have hESn := hES2; clear hES2
        clear n0 n1 n2 n3 n4 n5 n6 n7 n8 ln 
        clear b5 kx; have kx := kx4; clear kx4
        clear hBn; have hBn := hBn_4; clear hBn_4
        rw [hE2.out, hT2.out]
        have n0 : W4.cell? ⟨W3.heap.size, 0, none⟩ = some (.int .i64 m.k) := blkC hBn.out 0
        have n1 : W4.cell? ⟨W3.heap.size, 1, none⟩ = some (.int .i64 m.fr) := blkC hBn.out 1
        have n2 : W4.cell? ⟨W3.heap.size, 2, none⟩ = some (.int .i64 m.tt) := blkC hBn.out 2
        have n3 : W4.cell? ⟨W3.heap.size, 3, none⟩ = some (.int .i64 m.ro) := blkC hBn.out 3
        have n4 : W4.cell? ⟨W3.heap.size, 4, none⟩ = some (.int .i64 m.no) := blkC hBn.out 4
        have n5 : W4.cell? ⟨W3.heap.size, 5, none⟩ = some (.int .i64 5000) := blkC hBn.out 5
        have n6 : W4.cell? ⟨W3.heap.size, 6, none⟩ = some (.int .i64 m.nu) := blkC hBn.out 6
        have n7 : W4.cell? ⟨W3.heap.size, 7, none⟩ = some (.string (sOf m.v)) := blkC hBn.out 7
        have n8 : W4.cell? ⟨W3.heap.size, 8, none⟩ = some (.slice A3 m.l.length c3) := blkC hBn.out 8
        have ln := blkX hBn.out
        go_wp2_with (fail)
        refine (check_m ({ m with sl := 5000 } : Mg) A3 c3 _ (hL.out.keep kx.out) hESn.out (show m.l.length ≤ 70368744177664 from by have := hI.out.n; omega)).mono ?_
        rintro e W5 ⟨rfl, b5⟩
        have kx5 := Lib.hid (kx.out.trans (b5.mono kx.out.size))
        have hBn_5 := Lib.hid ((b5.block _ (blkX hBn.out)).trans hBn.out)
        clear n0 n1 n2 n3 n4 n5 n6 n7 n8 ln 
        clear b5 kx; have kx := kx5; clear kx5
        clear hBn; have hBn := hBn_5; clear hBn_5
        rw [hE2.out]
        go_wp2_with (fail)
        refine (works_any _ (hL.out.keep kx.out)).mono ?_
        rintro e W6 ⟨rfl, bv⟩
        have kx6 := Lib.hid (kx.out.trans (bv.mono kx.out.size))
        have hBn_6 := Lib.hid ((bv.block _ (blkX hBn.out)).trans hBn.out)
        clear bv kx; have kx := kx6; clear kx6
        clear hBn; have hBn := hBn_6; clear hBn_6
        go_wp2_with (fail)
        go_ret
        exact ⟨rfl, kx.out⟩
      · have y1 : (m.k == 4) = false := by simp; omega
        have y2 : (m.k == 6) = true := by simp; omega
        have hbad : argOK ({ m with sl := 5000 } : Mg) = false := by
          rw [← Bool.not_eq_true]
          intro hq
          have hq2 := (argOK_parts hq).2.2.1
          have hks2 : kSl m.k ≤ 4096 := by unfold kSl; split <;> (try split) <;> omega
          unfold fS at hq2
          dsimp only at hq2
          split at hq2
          · simp at hq2; omega
          · simp at hq2
        have hE2 := enc_arg hbad
        have hT2 : txtM ({ m with sl := 5000 } : Mg) = [] := by unfold txtM; rw [hE2]; rfl
        have kn : Below w.heap.size w (W3.alloc (.cells #[.int .i64 m.k, .int .i64 m.fr, .int .i64 m.tt, .int .i64 m.ro, .int .i64 m.no, .int .i64 5000, .int .i64 m.nu, .string (sOf m.v), .slice A3 m.l.length c3] 28)) := kx.out.alloc kx.out.size _
        have hBm : (W3.alloc (.cells #[.int .i64 m.k, .int .i64 m.fr, .int .i64 m.tt, .int .i64 m.ro, .int .i64 m.no, .int .i64 5000, .int .i64 m.nu, .string (sOf m.v), .slice A3 m.l.length c3] 28)).heap[W3.heap.size]? = some (.cells #[.int .i64 m.k, .int .i64 m.fr, .int .i64 m.tt, .int .i64 m.ro, .int .i64 m.no, .int .i64 5000, .int .i64 m.nu, .string (sOf m.v), .slice A3 m.l.length c3] 28 (0, 0)) := hpNew W3 _
        have hESn : ES (W3.alloc (.cells #[.int .i64 m.k, .int .i64 m.fr, .int .i64 m.tt, .int .i64 m.ro, .int .i64 m.no, .int .i64 5000, .int .i64 m.nu, .string (sOf m.v), .slice A3 m.l.length c3] 28)) A3 m.l.length m.l := SL.keep hES3.out ((Below.refl _ W3).alloc (Nat.le_refl _) _)
        have hen := enc_any ({ m with sl := 5000 } : Mg) A3 c3 (W3.alloc (.cells #[.int .i64 m.k, .int .i64 m.fr, .int .i64 m.tt, .int .i64 m.ro, .int .i64 m.no, .int .i64 5000, .int .i64 m.nu, .string (sOf m.v), .slice A3 m.l.length c3] 28)) (hL.out.keep kn) hESn (show m.l.length ≤ 70368744177664 from by have := hI.out.n; omega)
        replace kn := Lib.hid kn; replace hBm := Lib.hid hBm; replace hESn := Lib.hid hESn; (try replace hks := Lib.hid hks); replace hbad := Lib.hid hbad; replace hE2 := Lib.hid hE2; replace hT2 := Lib.hid hT2; replace hfit := Lib.hid hfit; replace h0 := Lib.hid h0
        clear harg hnl g0 g1 g2 g3 g4 g5
        go_wp2_with (fail)
        clear kx; have kx := kn; have hBn := hBm; clear kn hBm
        refine hen.mono ?_
        rintro e X1 ⟨A5, c5, rfl, o5, b5⟩
        rw [hE2.out]
        have kx2 := Lib.hid (kx.out.trans (b5.mono kx.out.size))
        have hB2 := Lib.hid ((b5.block _ (blkX hBn.out)).trans hBn.out)
        have hES2 := Lib.hid (SL.keep hESn.out b5)
        clear  o5 b5 hen
        clear kx hBn hESn; have kx := kx2; have hBn := hB2; have hESn := hES2; clear kx2 hB2 hES2
        generalize (encB ({ m with sl := 5000 } : Mg)).length = LL at *
        have n0 : X1.cell? ⟨W3.heap.size, 0, none⟩ = some (.int .i64 m.k) := blkC hBn.out 0
        have n1 : X1.cell? ⟨W3.heap.size, 1, none⟩ = some (.int .i64 m.fr) := blkC hBn.out 1
        have n2 : X1.cell? ⟨W3.heap.size, 2, none⟩ = some (.int .i64 m.tt) := blkC hBn.out 2
        have n3 : X1.cell? ⟨W3.heap.size, 3, none⟩ = some (.int .i64 m.ro) := blkC hBn.out 3
        have n4 : X1.cell? ⟨W3.heap.size, 4, none⟩ = some (.int .i64 m.no) := blkC hBn.out 4
        have n5 : X1.cell? ⟨W3.heap.size, 5, none⟩ = some (.int .i64 5000) := blkC hBn.out 5
        have n6 : X1.cell? ⟨W3.heap.size, 6, none⟩ = some (.int .i64 m.nu) := blkC hBn.out 6
        have n7 : X1.cell? ⟨W3.heap.size, 7, none⟩ = some (.string (sOf m.v)) := blkC hBn.out 7
        have n8 : X1.cell? ⟨W3.heap.size, 8, none⟩ = some (.slice A3 m.l.length c3) := blkC hBn.out 8
        have ln := blkX hBn.out
        go_wp2_with (fail)
        refine (textm_any ({ m with sl := 5000 } : Mg) A3 c3 _ (hL.out.keep kx.out) hESn.out (show m.l.length ≤ 70368744177664 from by have := hI.out.n; omega)).mono ?_
        rintro e W4 ⟨rfl, b5⟩
        have kx4 := Lib.hid (kx.out.trans (b5.mono kx.out.size))
        have hBn_4 := Lib.hid ((b5.block _ (blkX hBn.out)).trans hBn.out)
        have hES2 := Lib.hid (SL.keep hESn.out b5)
        clear hESn; have hESn := hES2; clear hES2
        clear n0 n1 n2 n3 n4 n5 n6 n7 n8 ln 
        clear b5 kx; have kx := kx4; clear kx4
        clear hBn; have hBn := hBn_4; clear hBn_4
        rw [hE2.out, hT2.out]
        have n0 : W4.cell? ⟨W3.heap.size, 0, none⟩ = some (.int .i64 m.k) := blkC hBn.out 0
        have n1 : W4.cell? ⟨W3.heap.size, 1, none⟩ = some (.int .i64 m.fr) := blkC hBn.out 1
        have n2 : W4.cell? ⟨W3.heap.size, 2, none⟩ = some (.int .i64 m.tt) := blkC hBn.out 2
        have n3 : W4.cell? ⟨W3.heap.size, 3, none⟩ = some (.int .i64 m.ro) := blkC hBn.out 3
        have n4 : W4.cell? ⟨W3.heap.size, 4, none⟩ = some (.int .i64 m.no) := blkC hBn.out 4
        have n5 : W4.cell? ⟨W3.heap.size, 5, none⟩ = some (.int .i64 5000) := blkC hBn.out 5
        have n6 : W4.cell? ⟨W3.heap.size, 6, none⟩ = some (.int .i64 m.nu) := blkC hBn.out 6
        have n7 : W4.cell? ⟨W3.heap.size, 7, none⟩ = some (.string (sOf m.v)) := blkC hBn.out 7
        have n8 : W4.cell? ⟨W3.heap.size, 8, none⟩ = some (.slice A3 m.l.length c3) := blkC hBn.out 8
        have ln := blkX hBn.out
        go_wp2_with (fail)
        refine (check_m ({ m with sl := 5000 } : Mg) A3 c3 _ (hL.out.keep kx.out) hESn.out (show m.l.length ≤ 70368744177664 from by have := hI.out.n; omega)).mono ?_
        rintro e W5 ⟨rfl, b5⟩
        have kx5 := Lib.hid (kx.out.trans (b5.mono kx.out.size))
        have hBn_5 := Lib.hid ((b5.block _ (blkX hBn.out)).trans hBn.out)
        clear n0 n1 n2 n3 n4 n5 n6 n7 n8 ln 
        clear b5 kx; have kx := kx5; clear kx5
        clear hBn; have hBn := hBn_5; clear hBn_5
        rw [hE2.out]
        go_wp2_with (fail)
        refine (works_any _ (hL.out.keep kx.out)).mono ?_
        rintro e W6 ⟨rfl, bv⟩
        have kx6 := Lib.hid (kx.out.trans (bv.mono kx.out.size))
        have hBn_6 := Lib.hid ((bv.block _ (blkX hBn.out)).trans hBn.out)
        clear bv kx; have kx := kx6; clear kx6
        clear hBn; have hBn := hBn_6; clear hBn_6
        go_wp2_with (fail)
        go_ret
        exact ⟨rfl, kx.out⟩
      · have y1 : (m.k == 4) = false := by simp; omega
        have y2 : (m.k == 6) = false := by simp; omega
        have y3 : 9 ≤ m.k := by omega
        have hbad : argOK ({ m with sl := 5000 } : Mg) = false := by
          rw [← Bool.not_eq_true]
          intro hq
          have hq2 := (argOK_parts hq).2.2.1
          have hks2 : kSl m.k ≤ 4096 := by unfold kSl; split <;> (try split) <;> omega
          unfold fS at hq2
          dsimp only at hq2
          split at hq2
          · simp at hq2; omega
          · simp at hq2
        have hE2 := enc_arg hbad
        have hT2 : txtM ({ m with sl := 5000 } : Mg) = [] := by unfold txtM; rw [hE2]; rfl
        have kn : Below w.heap.size w (W3.alloc (.cells #[.int .i64 m.k, .int .i64 m.fr, .int .i64 m.tt, .int .i64 m.ro, .int .i64 m.no, .int .i64 5000, .int .i64 m.nu, .string (sOf m.v), .slice A3 m.l.length c3] 28)) := kx.out.alloc kx.out.size _
        have hBm : (W3.alloc (.cells #[.int .i64 m.k, .int .i64 m.fr, .int .i64 m.tt, .int .i64 m.ro, .int .i64 m.no, .int .i64 5000, .int .i64 m.nu, .string (sOf m.v), .slice A3 m.l.length c3] 28)).heap[W3.heap.size]? = some (.cells #[.int .i64 m.k, .int .i64 m.fr, .int .i64 m.tt, .int .i64 m.ro, .int .i64 m.no, .int .i64 5000, .int .i64 m.nu, .string (sOf m.v), .slice A3 m.l.length c3] 28 (0, 0)) := hpNew W3 _
        have hESn : ES (W3.alloc (.cells #[.int .i64 m.k, .int .i64 m.fr, .int .i64 m.tt, .int .i64 m.ro, .int .i64 m.no, .int .i64 5000, .int .i64 m.nu, .string (sOf m.v), .slice A3 m.l.length c3] 28)) A3 m.l.length m.l := SL.keep hES3.out ((Below.refl _ W3).alloc (Nat.le_refl _) _)
        have hen := enc_any ({ m with sl := 5000 } : Mg) A3 c3 (W3.alloc (.cells #[.int .i64 m.k, .int .i64 m.fr, .int .i64 m.tt, .int .i64 m.ro, .int .i64 m.no, .int .i64 5000, .int .i64 m.nu, .string (sOf m.v), .slice A3 m.l.length c3] 28)) (hL.out.keep kn) hESn (show m.l.length ≤ 70368744177664 from by have := hI.out.n; omega)
        replace kn := Lib.hid kn; replace hBm := Lib.hid hBm; replace hESn := Lib.hid hESn; (try replace hks := Lib.hid hks); replace hbad := Lib.hid hbad; replace hE2 := Lib.hid hE2; replace hT2 := Lib.hid hT2; replace hfit := Lib.hid hfit; replace h0 := Lib.hid h0
        clear harg hnl g0 g1 g2 g3 g4 g5
        go_wp2_with (fail)
        clear kx; have kx := kn; have hBn := hBm; clear kn hBm
        refine hen.mono ?_
        rintro e X1 ⟨A5, c5, rfl, o5, b5⟩
        rw [hE2.out]
        have kx2 := Lib.hid (kx.out.trans (b5.mono kx.out.size))
        have hB2 := Lib.hid ((b5.block _ (blkX hBn.out)).trans hBn.out)
        have hES2 := Lib.hid (SL.keep hESn.out b5)
        clear  o5 b5 hen
        clear kx hBn hESn; have kx := kx2; have hBn := hB2; have hESn := hES2; clear kx2 hB2 hES2
        generalize (encB ({ m with sl := 5000 } : Mg)).length = LL at *
        have n0 : X1.cell? ⟨W3.heap.size, 0, none⟩ = some (.int .i64 m.k) := blkC hBn.out 0
        have n1 : X1.cell? ⟨W3.heap.size, 1, none⟩ = some (.int .i64 m.fr) := blkC hBn.out 1
        have n2 : X1.cell? ⟨W3.heap.size, 2, none⟩ = some (.int .i64 m.tt) := blkC hBn.out 2
        have n3 : X1.cell? ⟨W3.heap.size, 3, none⟩ = some (.int .i64 m.ro) := blkC hBn.out 3
        have n4 : X1.cell? ⟨W3.heap.size, 4, none⟩ = some (.int .i64 m.no) := blkC hBn.out 4
        have n5 : X1.cell? ⟨W3.heap.size, 5, none⟩ = some (.int .i64 5000) := blkC hBn.out 5
        have n6 : X1.cell? ⟨W3.heap.size, 6, none⟩ = some (.int .i64 m.nu) := blkC hBn.out 6
        have n7 : X1.cell? ⟨W3.heap.size, 7, none⟩ = some (.string (sOf m.v)) := blkC hBn.out 7
        have n8 : X1.cell? ⟨W3.heap.size, 8, none⟩ = some (.slice A3 m.l.length c3) := blkC hBn.out 8
        have ln := blkX hBn.out
        go_wp2_with (fail)
        refine (textm_any ({ m with sl := 5000 } : Mg) A3 c3 _ (hL.out.keep kx.out) hESn.out (show m.l.length ≤ 70368744177664 from by have := hI.out.n; omega)).mono ?_
        rintro e W4 ⟨rfl, b5⟩
        have kx4 := Lib.hid (kx.out.trans (b5.mono kx.out.size))
        have hBn_4 := Lib.hid ((b5.block _ (blkX hBn.out)).trans hBn.out)
        have hES2 := Lib.hid (SL.keep hESn.out b5)
        clear hESn; have hESn := hES2; clear hES2
        clear n0 n1 n2 n3 n4 n5 n6 n7 n8 ln 
        clear b5 kx; have kx := kx4; clear kx4
        clear hBn; have hBn := hBn_4; clear hBn_4
        rw [hE2.out, hT2.out]
        have n0 : W4.cell? ⟨W3.heap.size, 0, none⟩ = some (.int .i64 m.k) := blkC hBn.out 0
        have n1 : W4.cell? ⟨W3.heap.size, 1, none⟩ = some (.int .i64 m.fr) := blkC hBn.out 1
        have n2 : W4.cell? ⟨W3.heap.size, 2, none⟩ = some (.int .i64 m.tt) := blkC hBn.out 2
        have n3 : W4.cell? ⟨W3.heap.size, 3, none⟩ = some (.int .i64 m.ro) := blkC hBn.out 3
        have n4 : W4.cell? ⟨W3.heap.size, 4, none⟩ = some (.int .i64 m.no) := blkC hBn.out 4
        have n5 : W4.cell? ⟨W3.heap.size, 5, none⟩ = some (.int .i64 5000) := blkC hBn.out 5
        have n6 : W4.cell? ⟨W3.heap.size, 6, none⟩ = some (.int .i64 m.nu) := blkC hBn.out 6
        have n7 : W4.cell? ⟨W3.heap.size, 7, none⟩ = some (.string (sOf m.v)) := blkC hBn.out 7
        have n8 : W4.cell? ⟨W3.heap.size, 8, none⟩ = some (.slice A3 m.l.length c3) := blkC hBn.out 8
        have ln := blkX hBn.out
        go_wp2_with (fail)
        refine (check_m ({ m with sl := 5000 } : Mg) A3 c3 _ (hL.out.keep kx.out) hESn.out (show m.l.length ≤ 70368744177664 from by have := hI.out.n; omega)).mono ?_
        rintro e W5 ⟨rfl, b5⟩
        have kx5 := Lib.hid (kx.out.trans (b5.mono kx.out.size))
        have hBn_5 := Lib.hid ((b5.block _ (blkX hBn.out)).trans hBn.out)
        clear n0 n1 n2 n3 n4 n5 n6 n7 n8 ln 
        clear b5 kx; have kx := kx5; clear kx5
        clear hBn; have hBn := hBn_5; clear hBn_5
        rw [hE2.out]
        go_wp2_with (fail)
        refine (works_any _ (hL.out.keep kx.out)).mono ?_
        rintro e W6 ⟨rfl, bv⟩
        have kx6 := Lib.hid (kx.out.trans (bv.mono kx.out.size))
        have hBn_6 := Lib.hid ((bv.block _ (blkX hBn.out)).trans hBn.out)
        clear bv kx; have kx := kx6; clear kx6
        clear hBn; have hBn := hBn_6; clear hBn_6
        go_wp2_with (fail)
        go_ret
        exact ⟨rfl, kx.out⟩
      · have y1 : (m.k == 4) = false := by simp; omega
        have y2 : (m.k == 6) = false := by simp; omega
        have y3 : ¬ 9 ≤ m.k := by omega
        have hbad : argOK ({ m with v := [118] } : Mg) = false := by
          rw [← Bool.not_eq_true]
          intro hq
          have hq2 := (argOK_parts hq).2.2.2.2.1
          have hu : ¬ uV m.k = true := by unfold uV; simp; omega
          unfold fV at hq2
          dsimp only at hq2
          rw [if_neg hu] at hq2
          simp at hq2
        have hE2 := enc_arg hbad
        have hT2 : txtM ({ m with v := [118] } : Mg) = [] := by unfold txtM; rw [hE2]; rfl
        have kn : Below w.heap.size w (W3.alloc (.cells #[.int .i64 m.k, .int .i64 m.fr, .int .i64 m.tt, .int .i64 m.ro, .int .i64 m.no, .int .i64 m.sl, .int .i64 m.nu, .string ⟨#[118]⟩, .slice A3 m.l.length c3] 28)) := kx.out.alloc kx.out.size _
        have hBm : (W3.alloc (.cells #[.int .i64 m.k, .int .i64 m.fr, .int .i64 m.tt, .int .i64 m.ro, .int .i64 m.no, .int .i64 m.sl, .int .i64 m.nu, .string ⟨#[118]⟩, .slice A3 m.l.length c3] 28)).heap[W3.heap.size]? = some (.cells #[.int .i64 m.k, .int .i64 m.fr, .int .i64 m.tt, .int .i64 m.ro, .int .i64 m.no, .int .i64 m.sl, .int .i64 m.nu, .string ⟨#[118]⟩, .slice A3 m.l.length c3] 28 (0, 0)) := hpNew W3 _
        have hESn : ES (W3.alloc (.cells #[.int .i64 m.k, .int .i64 m.fr, .int .i64 m.tt, .int .i64 m.ro, .int .i64 m.no, .int .i64 m.sl, .int .i64 m.nu, .string ⟨#[118]⟩, .slice A3 m.l.length c3] 28)) A3 m.l.length m.l := SL.keep hES3.out ((Below.refl _ W3).alloc (Nat.le_refl _) _)
        have hen := enc_any ({ m with v := [118] } : Mg) A3 c3 (W3.alloc (.cells #[.int .i64 m.k, .int .i64 m.fr, .int .i64 m.tt, .int .i64 m.ro, .int .i64 m.no, .int .i64 m.sl, .int .i64 m.nu, .string ⟨#[118]⟩, .slice A3 m.l.length c3] 28)) (hL.out.keep kn) hESn (show m.l.length ≤ 70368744177664 from by have := hI.out.n; omega)
        replace kn := Lib.hid kn; replace hBm := Lib.hid hBm; replace hESn := Lib.hid hESn; (try replace hks := Lib.hid hks); replace hbad := Lib.hid hbad; replace hE2 := Lib.hid hE2; replace hT2 := Lib.hid hT2; replace hfit := Lib.hid hfit; replace h0 := Lib.hid h0
        clear harg hnl g0 g1 g2 g3 g4 g5
        go_wp2_with (fail)
        clear kx; have kx := kn; have hBn := hBm; clear kn hBm
        refine hen.mono ?_
        rintro e X1 ⟨A5, c5, rfl, o5, b5⟩
        rw [hE2.out]
        have kx2 := Lib.hid (kx.out.trans (b5.mono kx.out.size))
        have hB2 := Lib.hid ((b5.block _ (blkX hBn.out)).trans hBn.out)
        have hES2 := Lib.hid (SL.keep hESn.out b5)
        clear  o5 b5 hen
        clear kx hBn hESn; have kx := kx2; have hBn := hB2; have hESn := hES2; clear kx2 hB2 hES2
        generalize (encB ({ m with v := [118] } : Mg)).length = LL at *
        have n0 : X1.cell? ⟨W3.heap.size, 0, none⟩ = some (.int .i64 m.k) := blkC hBn.out 0
        have n1 : X1.cell? ⟨W3.heap.size, 1, none⟩ = some (.int .i64 m.fr) := blkC hBn.out 1
        have n2 : X1.cell? ⟨W3.heap.size, 2, none⟩ = some (.int .i64 m.tt) := blkC hBn.out 2
        have n3 : X1.cell? ⟨W3.heap.size, 3, none⟩ = some (.int .i64 m.ro) := blkC hBn.out 3
        have n4 : X1.cell? ⟨W3.heap.size, 4, none⟩ = some (.int .i64 m.no) := blkC hBn.out 4
        have n5 : X1.cell? ⟨W3.heap.size, 5, none⟩ = some (.int .i64 m.sl) := blkC hBn.out 5
        have n6 : X1.cell? ⟨W3.heap.size, 6, none⟩ = some (.int .i64 m.nu) := blkC hBn.out 6
        have n7 : X1.cell? ⟨W3.heap.size, 7, none⟩ = some (.string ⟨#[118]⟩) := blkC hBn.out 7
        have n8 : X1.cell? ⟨W3.heap.size, 8, none⟩ = some (.slice A3 m.l.length c3) := blkC hBn.out 8
        have ln := blkX hBn.out
        go_wp2_with (fail)
        refine (textm_any ({ m with v := [118] } : Mg) A3 c3 _ (hL.out.keep kx.out) hESn.out (show m.l.length ≤ 70368744177664 from by have := hI.out.n; omega)).mono ?_
        rintro e W4 ⟨rfl, b5⟩
        have kx4 := Lib.hid (kx.out.trans (b5.mono kx.out.size))
        have hBn_4 := Lib.hid ((b5.block _ (blkX hBn.out)).trans hBn.out)
        have hES2 := Lib.hid (SL.keep hESn.out b5)
        clear hESn; have hESn := hES2; clear hES2
        clear n0 n1 n2 n3 n4 n5 n6 n7 n8 ln 
        clear b5 kx; have kx := kx4; clear kx4
        clear hBn; have hBn := hBn_4; clear hBn_4
        rw [hE2.out, hT2.out]
        have n0 : W4.cell? ⟨W3.heap.size, 0, none⟩ = some (.int .i64 m.k) := blkC hBn.out 0
        have n1 : W4.cell? ⟨W3.heap.size, 1, none⟩ = some (.int .i64 m.fr) := blkC hBn.out 1
        have n2 : W4.cell? ⟨W3.heap.size, 2, none⟩ = some (.int .i64 m.tt) := blkC hBn.out 2
        have n3 : W4.cell? ⟨W3.heap.size, 3, none⟩ = some (.int .i64 m.ro) := blkC hBn.out 3
        have n4 : W4.cell? ⟨W3.heap.size, 4, none⟩ = some (.int .i64 m.no) := blkC hBn.out 4
        have n5 : W4.cell? ⟨W3.heap.size, 5, none⟩ = some (.int .i64 m.sl) := blkC hBn.out 5
        have n6 : W4.cell? ⟨W3.heap.size, 6, none⟩ = some (.int .i64 m.nu) := blkC hBn.out 6
        have n7 : W4.cell? ⟨W3.heap.size, 7, none⟩ = some (.string ⟨#[118]⟩) := blkC hBn.out 7
        have n8 : W4.cell? ⟨W3.heap.size, 8, none⟩ = some (.slice A3 m.l.length c3) := blkC hBn.out 8
        have ln := blkX hBn.out
        go_wp2_with (fail)
        refine (check_m ({ m with v := [118] } : Mg) A3 c3 _ (hL.out.keep kx.out) hESn.out (show m.l.length ≤ 70368744177664 from by have := hI.out.n; omega)).mono ?_
        rintro e W5 ⟨rfl, b5⟩
        have kx5 := Lib.hid (kx.out.trans (b5.mono kx.out.size))
        have hBn_5 := Lib.hid ((b5.block _ (blkX hBn.out)).trans hBn.out)
        clear n0 n1 n2 n3 n4 n5 n6 n7 n8 ln 
        clear b5 kx; have kx := kx5; clear kx5
        clear hBn; have hBn := hBn_5; clear hBn_5
        rw [hE2.out]
        go_wp2_with (fail)
        refine (works_any _ (hL.out.keep kx.out)).mono ?_
        rintro e W6 ⟨rfl, bv⟩
        have kx6 := Lib.hid (kx.out.trans (bv.mono kx.out.size))
        have hBn_6 := Lib.hid ((bv.block _ (blkX hBn.out)).trans hBn.out)
        clear bv kx; have kx := kx6; clear kx6
        clear hBn; have hBn := hBn_6; clear hBn_6
        go_wp2_with (fail)
        go_ret
        exact ⟨rfl, kx.out⟩
    · have r1 : (qn : Int) % 9 = 8 := by omega
      have r2 : (qn : Int).tmod 9 = 8 := by rw [show (9 : Int) = ((9 : Nat) : Int) from rfl, ← Int.ofNat_tmod, h9]; rfl
      by_cases hk2 : m.k = 2
      · have y1 : (m.k == 2) = true := by simp [hk2]
        obtain ⟨N, hN⟩ : ∃ N : Mg, N = { m with l := m.l ++ [⟨4096, m.ro, m.no, []⟩] } := ⟨_, rfl⟩
        have hbad : argOK N = false := by
          rw [← Bool.not_eq_true]
          intro hq
          have hq2 := (argOK_parts hq).2.2.2.2.2
          rw [hN] at hq2
          have hu : uL m.k = true := by unfold uL; exact decide_eq_true hk2
          unfold fL at hq2
          dsimp only at hq2
          rw [if_pos hu, okL_snoc] at hq2
          simp [okEnt] at hq2
        have hE2 := enc_arg hbad
        have bX := (Below.refl _ W3).alloc (Nat.le_refl _) (.cells #[.int .i64 m.k, .int .i64 m.fr, .int .i64 m.tt, .int .i64 m.ro, .int .i64 m.no, .int .i64 m.sl, .int .i64 m.nu, .string (sOf m.v), .slice A3 m.l.length c3] 28)
        have hPX := hpNew W3 (.cells #[.int .i64 m.k, .int .i64 m.fr, .int .i64 m.tt, .int .i64 m.ro, .int .i64 m.no, .int .i64 m.sl, .int .i64 m.nu, .string (sOf m.v), .slice A3 m.l.length c3] 28)
        have bV := bX.alloc bX.size (.cells #[.int .i64 4096, .int .i64 m.ro, .int .i64 m.no, .string (sOf [])] 45)
        have hPV := ((Below.refl _ (W3.alloc (.cells #[.int .i64 m.k, .int .i64 m.fr, .int .i64 m.tt, .int .i64 m.ro, .int .i64 m.no, .int .i64 m.sl, .int .i64 m.nu, .string (sOf m.v), .slice A3 m.l.length c3] 28))).alloc (Nat.le_refl _) (.cells #[.int .i64 4096, .int .i64 m.ro, .int .i64 m.no, .string (sOf [])] 45)).block _ (blkX hPX) |>.trans hPX
        have hoV := own_keep2 (ho.out.mono (base' := w.heap.size) hs2.out) bV
        obtain ⟨A8, c8, W8, hrun, hcap, hown, hgr, hat⟩ := append_sl elemEnt encEnt_len encEnt_one (ty := 26) (d := 1) hoV (Nat.le_trans kx.out.size bV.size) (ent_one (W3.alloc (.cells #[.int .i64 m.k, .int .i64 m.fr, .int .i64 m.tt, .int .i64 m.ro, .int .i64 m.no, .int .i64 m.sl, .int .i64 m.nu, .string (sOf m.v), .slice A3 m.l.length c3] 28)) 4096 m.ro m.no []) (by have := hfit.ln; omega) (by have := hfit.ln; omega)
        simp only [World.size_alloc] at hrun
        rw [show (sOf []) = (⟨#[]⟩ : ByteArray) from rfl] at hrun
        have hP8 := (hgr.block _ (blkX hPV) (fun e => own_ty hoV hPV (show 28 ≠ 45 from by decide) _ e.symm rfl)).trans hPV
        have b8 : Below w.heap.size w W8 := (kx.out.trans (bV.mono kx.out.size)).grown hgr (Nat.le_trans kx.out.size bV.size) (fun k e => (hoV.lt k (by rw [own_rowOf]; exact e)).1)
        have hP8t := own_ty hown hP8 (show 28 ≠ 45 from by decide)
        have kn : Below w.heap.size w (W8.setCell ⟨W3.heap.size, 8, none⟩ (.slice A8 (m.l.length + 1) c8)) := b8.setCell (by have := kx.out.size; simp only; omega) _
        have hBm : (W8.setCell ⟨W3.heap.size, 8, none⟩ (.slice A8 (m.l.length + 1) c8)).heap[W3.heap.size]? = some (.cells #[.int .i64 m.k, .int .i64 m.fr, .int .i64 m.tt, .int .i64 m.ro, .int .i64 m.no, .int .i64 m.sl, .int .i64 m.nu, .string (sOf m.v), .slice A8 (m.l.length + 1) c8] 28 (0, 0)) := by
          rw [hpSet (i := 8) (v := .slice A8 (m.l.length + 1) c8) hP8]; simp
        have hESn : ES (W8.setCell ⟨W3.heap.size, 8, none⟩ (.slice A8 (m.l.length + 1) c8)) A8 N.l.length N.l := by
          have hq := own_set hown hP8t 8 (.slice A8 (m.l.length + 1) c8)
          have hlen : N.l.length = m.l.length + 1 := by rw [hN]; simp
          rw [hlen, hN]
          exact SL.of_own encEnt_len hq (by simp)
        have hln : N.l.length ≤ 70368744177664 := by rw [hN]; have := hI.out.n; simp; omega
        have hen := enc_any N A8 c8 (W8.setCell ⟨W3.heap.size, 8, none⟩ (.slice A8 (m.l.length + 1) c8)) (hL.out.keep kn) hESn hln
        have heq : N.k = m.k ∧ N.fr = m.fr ∧ N.tt = m.tt ∧ N.ro = m.ro ∧ N.no = m.no ∧ N.sl = m.sl ∧ N.nu = m.nu ∧ N.v = m.v ∧ N.l.length = m.l.length + 1 := by rw [hN]; refine ⟨rfl, rfl, rfl, rfl, rfl, rfl, rfl, rfl, ?_⟩; simp
        simp only [heq.1, heq.2.1, heq.2.2.1, heq.2.2.2.1, heq.2.2.2.2.1, heq.2.2.2.2.2.1, heq.2.2.2.2.2.2.1, heq.2.2.2.2.2.2.2.1, heq.2.2.2.2.2.2.2.2] at hen
        have p0 : W8.cell? ⟨W3.heap.size, 0, none⟩ = some (.int .i64 m.k) := blkC hP8 0
        have p1 : W8.cell? ⟨W3.heap.size, 1, none⟩ = some (.int .i64 m.fr) := blkC hP8 1
        have p2 : W8.cell? ⟨W3.heap.size, 2, none⟩ = some (.int .i64 m.tt) := blkC hP8 2
        have p3 : W8.cell? ⟨W3.heap.size, 3, none⟩ = some (.int .i64 m.ro) := blkC hP8 3
        have p4 : W8.cell? ⟨W3.heap.size, 4, none⟩ = some (.int .i64 m.no) := blkC hP8 4
        have p5 : W8.cell? ⟨W3.heap.size, 5, none⟩ = some (.int .i64 m.sl) := blkC hP8 5
        have p6 : W8.cell? ⟨W3.heap.size, 6, none⟩ = some (.int .i64 m.nu) := blkC hP8 6
        have p7 : W8.cell? ⟨W3.heap.size, 7, none⟩ = some (.string (sOf m.v)) := blkC hP8 7
        have p8 : W8.cell? ⟨W3.heap.size, 8, none⟩ = some (.slice A3 m.l.length c3) := blkC hP8 8
        have pf := blkF hP8; have pl := blkX hP8
        replace hk2 := Lib.hid hk2; replace bX := Lib.hid bX; replace hPX := Lib.hid hPX; replace bV := Lib.hid bV; replace hPV := Lib.hid hPV; replace hoV := Lib.hid hoV; replace hown := Lib.hid hown; replace hgr := Lib.hid hgr; replace hat := Lib.hid hat; replace hP8 := Lib.hid hP8; replace b8 := Lib.hid b8; replace hP8t := Lib.hid hP8t; replace hcap := Lib.hid hcap
        have hT2 : txtM N = [] := by unfold txtM; rw [hE2]; rfl
        replace kn := Lib.hid kn; replace hBm := Lib.hid hBm; replace hESn := Lib.hid hESn; replace hbad := Lib.hid hbad; replace hE2 := Lib.hid hE2; replace hT2 := Lib.hid hT2; replace hfit := Lib.hid hfit; replace h0 := Lib.hid h0; replace hln := Lib.hid hln; replace heq := Lib.hid heq; replace hN := Lib.hid hN
        clear harg hnl g0 g1 g2 g3 g4 g5
        go_wp2_with (fail)
        skip
        clear kx; have kx := kn; have hBn := hBm; clear kn hBm
        refine hen.mono ?_
        rintro e X1 ⟨A5, c5, rfl, o5, b5⟩
        rw [hE2.out]
        have kx2 := Lib.hid (kx.out.trans (b5.mono kx.out.size))
        have hB2 := Lib.hid ((b5.block _ (blkX hBn.out)).trans hBn.out)
        have hES2 := Lib.hid (SL.keep hESn.out b5)
        clear o5 b5 hen
        clear kx hBn hESn; have kx := kx2; have hBn := hB2; have hESn := hES2; clear kx2 hB2 hES2
        generalize (encB N).length = LL at *
        have n0 : X1.cell? ⟨W3.heap.size, 0, none⟩ = some (.int .i64 m.k) := blkC hBn.out 0
        have n1 : X1.cell? ⟨W3.heap.size, 1, none⟩ = some (.int .i64 m.fr) := blkC hBn.out 1
        have n2 : X1.cell? ⟨W3.heap.size, 2, none⟩ = some (.int .i64 m.tt) := blkC hBn.out 2
        have n3 : X1.cell? ⟨W3.heap.size, 3, none⟩ = some (.int .i64 m.ro) := blkC hBn.out 3
        have n4 : X1.cell? ⟨W3.heap.size, 4, none⟩ = some (.int .i64 m.no) := blkC hBn.out 4
        have n5 : X1.cell? ⟨W3.heap.size, 5, none⟩ = some (.int .i64 m.sl) := blkC hBn.out 5
        have n6 : X1.cell? ⟨W3.heap.size, 6, none⟩ = some (.int .i64 m.nu) := blkC hBn.out 6
        have n7 : X1.cell? ⟨W3.heap.size, 7, none⟩ = some (.string (sOf m.v)) := blkC hBn.out 7
        have n8 : X1.cell? ⟨W3.heap.size, 8, none⟩ = some (.slice A8 (m.l.length + 1) c8) := blkC hBn.out 8
        have ln := blkX hBn.out
        have hcx := textm_any N A8 c8 _ (hL.out.keep kx.out) hESn.out hln.out
        simp only [heq.out.1, heq.out.2.1, heq.out.2.2.1, heq.out.2.2.2.1, heq.out.2.2.2.2.1, heq.out.2.2.2.2.2.1, heq.out.2.2.2.2.2.2.1, heq.out.2.2.2.2.2.2.2.1, heq.out.2.2.2.2.2.2.2.2] at hcx
        go_wp2_with (fail)
        refine (hcx).mono ?_
        rintro e W4 ⟨rfl, b5⟩
        have kx4 := Lib.hid (kx.out.trans (b5.mono kx.out.size))
        have hBn_4 := Lib.hid ((b5.block _ (blkX hBn.out)).trans hBn.out)
        have hES2 := Lib.hid (SL.keep hESn.out b5)
        clear hESn; have hESn := hES2; clear hES2
        clear n0 n1 n2 n3 n4 n5 n6 n7 n8 ln 
        clear b5 kx; have kx := kx4; clear kx4
        clear hBn; have hBn := hBn_4; clear hBn_4
        clear hcx
        rw [hE2.out, hT2.out]
        have n0 : W4.cell? ⟨W3.heap.size, 0, none⟩ = some (.int .i64 m.k) := blkC hBn.out 0
        have n1 : W4.cell? ⟨W3.heap.size, 1, none⟩ = some (.int .i64 m.fr) := blkC hBn.out 1
        have n2 : W4.cell? ⟨W3.heap.size, 2, none⟩ = some (.int .i64 m.tt) := blkC hBn.out 2
        have n3 : W4.cell? ⟨W3.heap.size, 3, none⟩ = some (.int .i64 m.ro) := blkC hBn.out 3
        have n4 : W4.cell? ⟨W3.heap.size, 4, none⟩ = some (.int .i64 m.no) := blkC hBn.out 4
        have n5 : W4.cell? ⟨W3.heap.size, 5, none⟩ = some (.int .i64 m.sl) := blkC hBn.out 5
        have n6 : W4.cell? ⟨W3.heap.size, 6, none⟩ = some (.int .i64 m.nu) := blkC hBn.out 6
        have n7 : W4.cell? ⟨W3.heap.size, 7, none⟩ = some (.string (sOf m.v)) := blkC hBn.out 7
        have n8 : W4.cell? ⟨W3.heap.size, 8, none⟩ = some (.slice A8 (m.l.length + 1) c8) := blkC hBn.out 8
        have ln := blkX hBn.out
        have hcx := check_m N A8 c8 _ (hL.out.keep kx.out) hESn.out hln.out
        simp only [heq.out.1, heq.out.2.1, heq.out.2.2.1, heq.out.2.2.2.1, heq.out.2.2.2.2.1, heq.out.2.2.2.2.2.1, heq.out.2.2.2.2.2.2.1, heq.out.2.2.2.2.2.2.2.1, heq.out.2.2.2.2.2.2.2.2] at hcx
        go_wp2_with (fail)
        refine (hcx).mono ?_
        rintro e W5 ⟨rfl, b5⟩
        have kx5 := Lib.hid (kx.out.trans (b5.mono kx.out.size))
        have hBn_5 := Lib.hid ((b5.block _ (blkX hBn.out)).trans hBn.out)
        clear n0 n1 n2 n3 n4 n5 n6 n7 n8 ln 
        clear b5 kx; have kx := kx5; clear kx5
        clear hBn; have hBn := hBn_5; clear hBn_5
        clear hcx
        rw [hE2.out]
        go_wp2_with (fail)
        refine (works_any _ (hL.out.keep kx.out)).mono ?_
        rintro e W6 ⟨rfl, bv⟩
        have kx6 := Lib.hid (kx.out.trans (bv.mono kx.out.size))
        have hBn_6 := Lib.hid ((bv.block _ (blkX hBn.out)).trans hBn.out)
        clear bv kx; have kx := kx6; clear kx6
        clear hBn; have hBn := hBn_6; clear hBn_6
        go_wp2_with (fail)
        go_ret
        exact ⟨rfl, kx.out⟩
      · have y1 : (m.k == 2) = false := by simp [hk2]
        obtain ⟨N, hN⟩ : ∃ N : Mg, N = { m with l := [⟨0, 1, 0, []⟩] } := ⟨_, rfl⟩
        have hbad : argOK N = false := by
          rw [← Bool.not_eq_true]
          intro hq
          have hq2 := (argOK_parts hq).2.2.2.2.2
          rw [hN] at hq2
          have hu : ¬ uL m.k = true := by unfold uL; simp [hk2]
          unfold fL at hq2
          dsimp only at hq2
          rw [if_neg hu] at hq2
          simp at hq2
        have hE2 := enc_arg hbad
        have bX := (Below.refl _ W3).alloc (Nat.le_refl _) (.cells #[.int .i64 m.k, .int .i64 m.fr, .int .i64 m.tt, .int .i64 m.ro, .int .i64 m.no, .int .i64 m.sl, .int .i64 m.nu, .string (sOf m.v), .slice (some ⟨W3.heap.size + 1, 0, none⟩) 1 1] 28)
        have hPX := hpNew W3 (.cells #[.int .i64 m.k, .int .i64 m.fr, .int .i64 m.tt, .int .i64 m.ro, .int .i64 m.no, .int .i64 m.sl, .int .i64 m.nu, .string (sOf m.v), .slice (some ⟨W3.heap.size + 1, 0, none⟩) 1 1] 28)
        have bV := bX.alloc bX.size (.cells #[.int .i64 0, .int .i64 1, .int .i64 0, .string ⟨#[]⟩] 45)
        have hBm : ((W3.alloc (.cells #[.int .i64 m.k, .int .i64 m.fr, .int .i64 m.tt, .int .i64 m.ro, .int .i64 m.no, .int .i64 m.sl, .int .i64 m.nu, .string (sOf m.v), .slice (some ⟨W3.heap.size + 1, 0, none⟩) 1 1] 28)).alloc (.cells #[.int .i64 0, .int .i64 1, .int .i64 0, .string ⟨#[]⟩] 45)).heap[W3.heap.size]? = some (.cells #[.int .i64 m.k, .int .i64 m.fr, .int .i64 m.tt, .int .i64 m.ro, .int .i64 m.no, .int .i64 m.sl, .int .i64 m.nu, .string (sOf m.v), .slice (some ⟨W3.heap.size + 1, 0, none⟩) 1 1] 28 (0, 0)) := ((Below.refl _ (W3.alloc (.cells #[.int .i64 m.k, .int .i64 m.fr, .int .i64 m.tt, .int .i64 m.ro, .int .i64 m.no, .int .i64 m.sl, .int .i64 m.nu, .string (sOf m.v), .slice (some ⟨W3.heap.size + 1, 0, none⟩) 1 1] 28))).alloc (Nat.le_refl _) (.cells #[.int .i64 0, .int .i64 1, .int .i64 0, .string ⟨#[]⟩] 45)).block _ (blkX hPX) |>.trans hPX
        have hNV := ent_one (W3.alloc (.cells #[.int .i64 m.k, .int .i64 m.fr, .int .i64 m.tt, .int .i64 m.ro, .int .i64 m.no, .int .i64 m.sl, .int .i64 m.nu, .string (sOf m.v), .slice (some ⟨W3.heap.size + 1, 0, none⟩) 1 1] 28)) 0 1 0 []
        obtain ⟨A8, hA8⟩ : ∃ A8 : Option Addr, A8 = some ⟨W3.heap.size + 1, 0, none⟩ := ⟨_, rfl⟩
        obtain ⟨c8, hc8⟩ : ∃ c8 : Nat, c8 = 1 := ⟨_, rfl⟩
        have kn : Below w.heap.size w ((W3.alloc (.cells #[.int .i64 m.k, .int .i64 m.fr, .int .i64 m.tt, .int .i64 m.ro, .int .i64 m.no, .int .i64 m.sl, .int .i64 m.nu, .string (sOf m.v), .slice (some ⟨W3.heap.size + 1, 0, none⟩) 1 1] 28)).alloc (.cells #[.int .i64 0, .int .i64 1, .int .i64 0, .string ⟨#[]⟩] 45)) := kx.out.trans (bV.mono kx.out.size)
        have hESn : ES ((W3.alloc (.cells #[.int .i64 m.k, .int .i64 m.fr, .int .i64 m.tt, .int .i64 m.ro, .int .i64 m.no, .int .i64 m.sl, .int .i64 m.nu, .string (sOf m.v), .slice (some ⟨W3.heap.size + 1, 0, none⟩) 1 1] 28)).alloc (.cells #[.int .i64 0, .int .i64 1, .int .i64 0, .string ⟨#[]⟩] 45)) A8 N.l.length N.l := by
          rw [hN, hA8]
          have hq := hNV
          simp only [World.size_alloc] at hq
          rw [show (sOf []) = (⟨#[]⟩ : ByteArray) from rfl] at hq
          exact hq
        have hln : N.l.length ≤ 70368744177664 := by rw [hN]; simp
        have hen := enc_any N A8 c8 ((W3.alloc (.cells #[.int .i64 m.k, .int .i64 m.fr, .int .i64 m.tt, .int .i64 m.ro, .int .i64 m.no, .int .i64 m.sl, .int .i64 m.nu, .string (sOf m.v), .slice (some ⟨W3.heap.size + 1, 0, none⟩) 1 1] 28)).alloc (.cells #[.int .i64 0, .int .i64 1, .int .i64 0, .string ⟨#[]⟩] 45)) (hL.out.keep kn) hESn hln
        have heq : N.k = m.k ∧ N.fr = m.fr ∧ N.tt = m.tt ∧ N.ro = m.ro ∧ N.no = m.no ∧ N.sl = m.sl ∧ N.nu = m.nu ∧ N.v = m.v ∧ N.l.length = 1 := by rw [hN]; refine ⟨rfl, rfl, rfl, rfl, rfl, rfl, rfl, rfl, ?_⟩; simp
        simp only [heq.1, heq.2.1, heq.2.2.1, heq.2.2.2.1, heq.2.2.2.2.1, heq.2.2.2.2.2.1, heq.2.2.2.2.2.2.1, heq.2.2.2.2.2.2.2.1, heq.2.2.2.2.2.2.2.2] at hen
        rw [hA8, hc8] at hen
        replace hk2 := Lib.hid hk2; replace bX := Lib.hid bX; replace hPX := Lib.hid hPX; replace bV := Lib.hid bV; replace hNV := Lib.hid hNV; replace hA8 := Lib.hid hA8; replace hc8 := Lib.hid hc8
        have hT2 : txtM N = [] := by unfold txtM; rw [hE2]; rfl
        replace kn := Lib.hid kn; replace hBm := Lib.hid hBm; replace hESn := Lib.hid hESn; replace hbad := Lib.hid hbad; replace hE2 := Lib.hid hE2; replace hT2 := Lib.hid hT2; replace hfit := Lib.hid hfit; replace h0 := Lib.hid h0; replace hln := Lib.hid hln; replace heq := Lib.hid heq; replace hN := Lib.hid hN
        clear harg hnl g0 g1 g2 g3 g4 g5
        go_wp2_with (fail)
        skip
        clear kx; have kx := kn; have hBn := hBm; clear kn hBm
        refine hen.mono ?_
        rintro e X1 ⟨A5, c5, rfl, o5, b5⟩
        rw [hE2.out]
        have kx2 := Lib.hid (kx.out.trans (b5.mono kx.out.size))
        have hB2 := Lib.hid ((b5.block _ (blkX hBn.out)).trans hBn.out)
        have hES2 := Lib.hid (SL.keep hESn.out b5)
        clear o5 b5 hen
        clear kx hBn hESn; have kx := kx2; have hBn := hB2; have hESn := hES2; clear kx2 hB2 hES2
        generalize (encB N).length = LL at *
        have n0 : X1.cell? ⟨W3.heap.size, 0, none⟩ = some (.int .i64 m.k) := blkC hBn.out 0
        have n1 : X1.cell? ⟨W3.heap.size, 1, none⟩ = some (.int .i64 m.fr) := blkC hBn.out 1
        have n2 : X1.cell? ⟨W3.heap.size, 2, none⟩ = some (.int .i64 m.tt) := blkC hBn.out 2
        have n3 : X1.cell? ⟨W3.heap.size, 3, none⟩ = some (.int .i64 m.ro) := blkC hBn.out 3
        have n4 : X1.cell? ⟨W3.heap.size, 4, none⟩ = some (.int .i64 m.no) := blkC hBn.out 4
        have n5 : X1.cell? ⟨W3.heap.size, 5, none⟩ = some (.int .i64 m.sl) := blkC hBn.out 5
        have n6 : X1.cell? ⟨W3.heap.size, 6, none⟩ = some (.int .i64 m.nu) := blkC hBn.out 6
        have n7 : X1.cell? ⟨W3.heap.size, 7, none⟩ = some (.string (sOf m.v)) := blkC hBn.out 7
        have n8 : X1.cell? ⟨W3.heap.size, 8, none⟩ = some (.slice (some ⟨W3.heap.size + 1, 0, none⟩) 1 1) := blkC hBn.out 8
        have ln := blkX hBn.out
        have hcx := textm_any N A8 c8 _ (hL.out.keep kx.out) hESn.out hln.out
        simp only [heq.out.1, heq.out.2.1, heq.out.2.2.1, heq.out.2.2.2.1, heq.out.2.2.2.2.1, heq.out.2.2.2.2.2.1, heq.out.2.2.2.2.2.2.1, heq.out.2.2.2.2.2.2.2.1, heq.out.2.2.2.2.2.2.2.2, hA8.out, hc8.out] at hcx
        go_wp2_with (fail)
        refine (hcx).mono ?_
        rintro e W4 ⟨rfl, b5⟩
        have kx4 := Lib.hid (kx.out.trans (b5.mono kx.out.size))
        have hBn_4 := Lib.hid ((b5.block _ (blkX hBn.out)).trans hBn.out)
        have hES2 := Lib.hid (SL.keep hESn.out b5)
        clear hESn; have hESn := hES2; clear hES2
        clear n0 n1 n2 n3 n4 n5 n6 n7 n8 ln 
        clear b5 kx; have kx := kx4; clear kx4
        clear hBn; have hBn := hBn_4; clear hBn_4
        clear hcx
        rw [hE2.out, hT2.out]
        have n0 : W4.cell? ⟨W3.heap.size, 0, none⟩ = some (.int .i64 m.k) := blkC hBn.out 0
        have n1 : W4.cell? ⟨W3.heap.size, 1, none⟩ = some (.int .i64 m.fr) := blkC hBn.out 1
        have n2 : W4.cell? ⟨W3.heap.size, 2, none⟩ = some (.int .i64 m.tt) := blkC hBn.out 2
        have n3 : W4.cell? ⟨W3.heap.size, 3, none⟩ = some (.int .i64 m.ro) := blkC hBn.out 3
        have n4 : W4.cell? ⟨W3.heap.size, 4, none⟩ = some (.int .i64 m.no) := blkC hBn.out 4
        have n5 : W4.cell? ⟨W3.heap.size, 5, none⟩ = some (.int .i64 m.sl) := blkC hBn.out 5
        have n6 : W4.cell? ⟨W3.heap.size, 6, none⟩ = some (.int .i64 m.nu) := blkC hBn.out 6
        have n7 : W4.cell? ⟨W3.heap.size, 7, none⟩ = some (.string (sOf m.v)) := blkC hBn.out 7
        have n8 : W4.cell? ⟨W3.heap.size, 8, none⟩ = some (.slice (some ⟨W3.heap.size + 1, 0, none⟩) 1 1) := blkC hBn.out 8
        have ln := blkX hBn.out
        have hcx := check_m N A8 c8 _ (hL.out.keep kx.out) hESn.out hln.out
        simp only [heq.out.1, heq.out.2.1, heq.out.2.2.1, heq.out.2.2.2.1, heq.out.2.2.2.2.1, heq.out.2.2.2.2.2.1, heq.out.2.2.2.2.2.2.1, heq.out.2.2.2.2.2.2.2.1, heq.out.2.2.2.2.2.2.2.2, hA8.out, hc8.out] at hcx
        go_wp2_with (fail)
        refine (hcx).mono ?_
        rintro e W5 ⟨rfl, b5⟩
        have kx5 := Lib.hid (kx.out.trans (b5.mono kx.out.size))
        have hBn_5 := Lib.hid ((b5.block _ (blkX hBn.out)).trans hBn.out)
        clear n0 n1 n2 n3 n4 n5 n6 n7 n8 ln 
        clear b5 kx; have kx := kx5; clear kx5
        clear hBn; have hBn := hBn_5; clear hBn_5
        clear hcx
        rw [hE2.out]
        go_wp2_with (fail)
        refine (works_any _ (hL.out.keep kx.out)).mono ?_
        rintro e W6 ⟨rfl, bv⟩
        have kx6 := Lib.hid (kx.out.trans (bv.mono kx.out.size))
        have hBn_6 := Lib.hid ((bv.block _ (blkX hBn.out)).trans hBn.out)
        clear bv kx; have kx := kx6; clear kx6
        clear hBn; have hBn := hBn_6; clear hBn_6
        go_wp2_with (fail)
        go_ret
        exact ⟨rfl, kx.out⟩
end Go.Proofs.YtlinjanflenljaaGreatDoor
