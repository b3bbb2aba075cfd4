/- What bytes are read as: the walk. -/
import Derived.Test.YtlinjanflenljaaGreatDoorCutsW
import Derived.Test.YtlinjanflenljaaGreatDoorREqM
import Derived.Test.YtlinjanflenljaaGreatDoorRDec
namespace Go.Proofs.YtlinjanflenljaaGreatDoor
open Go.RowKit
set_option linter.unusedSimpArgs false
set_option linter.unusedVariables false
set_option linter.unusedSectionVars false
set_option maxRecDepth 10000
theorem rdec_msg_any {A : Option Addr} {n c : Nat} {xs : List UInt8} {w : World} (hR : RB w A n xs) (hn : n ≤ 70368744177664) {M : Mg} {y : Int} (hD : decM xs = (M, y)) : Calls Tryz.prog 14 #[.slice A n c] w fun e w' => ∃ A' c', e = .returned (.tuple #[.agg #[.int .i64 M.k, .int .i64 M.fr, .int .i64 M.tt, .int .i64 M.ro, .int .i64 M.no, .int .i64 M.sl, .int .i64 M.nu, .string (sOf M.v), .slice A' M.l.length c'], .int .i64 y]) ∧ ES w' A' M.l.length M.l ∧ Below w.heap.size w w' := by
  refine (rdec_any A n c xs w hR hn).mono ?_
  unfold DecTo
  rw [hD]
  rintro e w' ⟨A', c', rfl, ho, hb⟩
  exact ⟨A', c', rfl, SL.of_own encEnt_len ho rfl, hb⟩
set_option maxHeartbeats 16000000 in
theorem reads_walk (B : Option Addr) (nb cb : Nat) (xs : List UInt8) (w : World) (hL : Ldr w) (hB : RB w B nb xs) (hcb : nb ≤ cb) (hnb : nb ≤ 140737488355328) :
    Calls Tryz.prog 3 #[.slice B nb cb] w fun e w' => e = .returned (.bool true) ∧ Below w.heap.size w w' := by
  have kx := Lib.hid (Below.refl w.heap.size w)
  by_cases hbig : 2000 < nb
  · have hn2 : (2000 : Int) < (nb : Int) := by omega
    replace hB := Lib.hid hB
    replace hL := Lib.hid hL
    clear hbig
    go_enter Tryz.func3, Tryz.ntmps3
    go_wp2_with (fail)
    refine (works_any _ (hL.out.keep kx.out)).mono ?_
    rintro e W1 ⟨rfl, bv⟩
    have kx1 := Lib.hid (kx.out.trans (bv.mono kx.out.size))
    clear bv kx; have kx := kx1; clear kx1
    go_wp2_with (fail)
    go_ret
    exact ⟨rfl, kx.out⟩
  have hn2 : ¬ (2000 : Int) < (nb : Int) := by omega
  obtain ⟨⟨M, y⟩, hD⟩ : ∃ D, decM xs = D := ⟨_, rfl⟩
  have hlen : M.l.length ≤ 70368744177664 := by
    by_cases h : (decM xs).2 = 0
    · have h2 := (dec_from h).1
      rw [hD] at h2
      have := (fit_of (encE_ok h2).1 (encE_ok h2).2.1).ln
      dsimp only at this
      omega
    · rcases dec_err h with e | ⟨e, -⟩ <;> (rw [hD] at e; injection e with e; rw [e]; decide)
  have hq := fun V (h : RB V B nb xs) => h.str cb
  obtain ⟨X, hX⟩ : ∃ X : ByteArray, (⟨xs.toArray⟩ : ByteArray) = X := ⟨_, rfl⟩
  rw [hX] at hq
  replace hX := Lib.hid hX; replace hq := Lib.hid hq; replace hlen := Lib.hid hlen
  have hc0 := hq.out w hB
  replace hB := Lib.hid hB
  replace hL := Lib.hid hL
  go_enter Tryz.func3, Tryz.ntmps3
  go_wp2_with (fail)
  clear hc0
  refine (dec_msg_any (c := cb) (hL.out.keep kx.out) (hB.out.below kx.out) (by omega) hD).mono ?_
  rintro e W1 ⟨A4, c4, rfl, hES4, b4⟩
  have kx1 := Lib.hid (kx.out.trans (b4.mono kx.out.size))
  replace hES4 := Lib.hid hES4
  clear b4 kx; have kx := kx1; clear kx1
  obtain ⟨W2, hW2⟩ : ∃ W', W' = W1.alloc (.cells #[.int .i64 M.k, .int .i64 M.fr, .int .i64 M.tt, .int .i64 M.ro, .int .i64 M.no, .int .i64 M.sl, .int .i64 M.nu, .string (sOf M.v), .slice A4 M.l.length c4] 28) := ⟨_, rfl⟩
  have bb : Below W1.heap.size W1 W2 := by rw [hW2]; exact (Below.refl _ W1).alloc (Nat.le_refl _) _
  have hBn := Lib.hid (show W2.heap[W1.heap.size]? = some (.cells #[.int .i64 M.k, .int .i64 M.fr, .int .i64 M.tt, .int .i64 M.ro, .int .i64 M.no, .int .i64 M.sl, .int .i64 M.nu, .string (sOf M.v), .slice A4 M.l.length c4] 28 (0, 0)) from by rw [hW2]; exact hpNew W1 _)
  have kx2 := Lib.hid (kx.out.trans (bb.mono kx.out.size))
  have hES5 := Lib.hid (SL.keep hES4.out bb)
  clear hES4; have hES4 := hES5; clear hES5
  clear bb kx; have kx := kx2; clear kx2
  go_wp2_with (fail)
  rw [← hW2]
  replace hW2 := Lib.hid hW2
  refine (rdec_msg_any (c := cb) (hB.out.below kx.out) (by omega) hD).mono ?_
  rintro e W3 ⟨A5, c5, rfl, hES5, b5⟩
  have kx3 := Lib.hid (kx.out.trans (b5.mono kx.out.size))
  have hBn_3 := Lib.hid ((b5.block _ (blkX hBn.out)).trans hBn.out)
  have hES6 := Lib.hid (SL.keep hES4.out b5)
  clear hES4; have hES4 := hES6; clear hES6
  replace hES5 := Lib.hid hES5
  clear b5 kx; have kx := kx3; clear kx3
  clear hBn; have hBn := hBn_3; clear hBn_3
  have n0 : W3.cell? ⟨W1.heap.size, 0, none⟩ = some (.int .i64 M.k) := blkC hBn.out 0
  have n1 : W3.cell? ⟨W1.heap.size, 1, none⟩ = some (.int .i64 M.fr) := blkC hBn.out 1
  have n2 : W3.cell? ⟨W1.heap.size, 2, none⟩ = some (.int .i64 M.tt) := blkC hBn.out 2
  have n3 : W3.cell? ⟨W1.heap.size, 3, none⟩ = some (.int .i64 M.ro) := blkC hBn.out 3
  have n4 : W3.cell? ⟨W1.heap.size, 4, none⟩ = some (.int .i64 M.no) := blkC hBn.out 4
  have n5 : W3.cell? ⟨W1.heap.size, 5, none⟩ = some (.int .i64 M.sl) := blkC hBn.out 5
  have n6 : W3.cell? ⟨W1.heap.size, 6, none⟩ = some (.int .i64 M.nu) := blkC hBn.out 6
  have n7 : W3.cell? ⟨W1.heap.size, 7, none⟩ = some (.string (sOf M.v)) := blkC hBn.out 7
  have n8 : W3.cell? ⟨W1.heap.size, 8, none⟩ = some (.slice A4 M.l.length c4) := blkC hBn.out 8
  have ln := blkX hBn.out
  obtain ⟨W4, hW4⟩ : ∃ W', W' = W3.alloc (.cells #[.int .i64 M.k, .int .i64 M.fr, .int .i64 M.tt, .int .i64 M.ro, .int .i64 M.no, .int .i64 M.sl, .int .i64 M.nu, .string (sOf M.v), .slice A5 M.l.length c5] 28) := ⟨_, rfl⟩
  have bb : Below W3.heap.size W3 W4 := by rw [hW4]; exact (Below.refl _ W3).alloc (Nat.le_refl _) _
  have hBn2 := Lib.hid (show W4.heap[W3.heap.size]? = some (.cells #[.int .i64 M.k, .int .i64 M.fr, .int .i64 M.tt, .int .i64 M.ro, .int .i64 M.no, .int .i64 M.sl, .int .i64 M.nu, .string (sOf M.v), .slice A5 M.l.length c5] 28 (0, 0)) from by rw [hW4]; exact hpNew W3 _)
  have kx4 := Lib.hid (kx.out.trans (bb.mono kx.out.size))
  have hBn_4 := Lib.hid ((bb.block _ (blkX hBn.out)).trans hBn.out)
  have hES6 := Lib.hid (SL.keep hES4.out bb)
  clear hES4; have hES4 := hES6; clear hES6
  have hES6 := Lib.hid (SL.keep hES5.out bb)
  clear hES5; have hES5 := hES6; clear hES6
  clear bb kx; have kx := kx4; clear kx4
  clear hBn; have hBn := hBn_4; clear hBn_4
  have n0 : W4.cell? ⟨W1.heap.size, 0, none⟩ = some (.int .i64 M.k) := blkC hBn.out 0
  have n1 : W4.cell? ⟨W1.heap.size, 1, none⟩ = some (.int .i64 M.fr) := blkC hBn.out 1
  have n2 : W4.cell? ⟨W1.heap.size, 2, none⟩ = some (.int .i64 M.tt) := blkC hBn.out 2
  have n3 : W4.cell? ⟨W1.heap.size, 3, none⟩ = some (.int .i64 M.ro) := blkC hBn.out 3
  have n4 : W4.cell? ⟨W1.heap.size, 4, none⟩ = some (.int .i64 M.no) := blkC hBn.out 4
  have n5 : W4.cell? ⟨W1.heap.size, 5, none⟩ = some (.int .i64 M.sl) := blkC hBn.out 5
  have n6 : W4.cell? ⟨W1.heap.size, 6, none⟩ = some (.int .i64 M.nu) := blkC hBn.out 6
  have n7 : W4.cell? ⟨W1.heap.size, 7, none⟩ = some (.string (sOf M.v)) := blkC hBn.out 7
  have n8 : W4.cell? ⟨W1.heap.size, 8, none⟩ = some (.slice A4 M.l.length c4) := blkC hBn.out 8
  have ln := blkX hBn.out
  have n20 : W4.cell? ⟨W3.heap.size, 0, none⟩ = some (.int .i64 M.k) := blkC hBn2.out 0
  have n21 : W4.cell? ⟨W3.heap.size, 1, none⟩ = some (.int .i64 M.fr) := blkC hBn2.out 1
  have n22 : W4.cell? ⟨W3.heap.size, 2, none⟩ = some (.int .i64 M.tt) := blkC hBn2.out 2
  have n23 : W4.cell? ⟨W3.heap.size, 3, none⟩ = some (.int .i64 M.ro) := blkC hBn2.out 3
  have n24 : W4.cell? ⟨W3.heap.size, 4, none⟩ = some (.int .i64 M.no) := blkC hBn2.out 4
  have n25 : W4.cell? ⟨W3.heap.size, 5, none⟩ = some (.int .i64 M.sl) := blkC hBn2.out 5
  have n26 : W4.cell? ⟨W3.heap.size, 6, none⟩ = some (.int .i64 M.nu) := blkC hBn2.out 6
  have n27 : W4.cell? ⟨W3.heap.size, 7, none⟩ = some (.string (sOf M.v)) := blkC hBn2.out 7
  have n28 : W4.cell? ⟨W3.heap.size, 8, none⟩ = some (.slice A5 M.l.length c5) := blkC hBn2.out 8
  have ln2 := blkX hBn2.out
  go_wp2_with (fail)
  rw [← hW4]
  replace hW4 := Lib.hid hW4
  refine (requal_m M M A4 A5 c4 c5 _ hES4.out hES5.out hlen.out hlen.out).mono ?_
  rintro e W5 ⟨rfl, b6⟩
  have kx5 := Lib.hid (kx.out.trans (b6.mono kx.out.size))
  have hBn_5 := Lib.hid ((b6.block _ (blkX hBn.out)).trans hBn.out)
  have hBn2_5 := Lib.hid ((b6.block _ (blkX hBn2.out)).trans hBn2.out)
  clear n0 n1 n2 n3 n4 n5 n6 n7 n8 ln n20 n21 n22 n23 n24 n25 n26 n27 n28 ln2 
  clear b6 kx; have kx := kx5; clear kx5
  clear hBn; have hBn := hBn_5; clear hBn_5
  clear hBn2; have hBn2 := hBn2_5; clear hBn2_5
  rw [show decide (M = M) = true from decide_eq_true rfl]
  have hc0 := hq.out _ (hB.out.below kx.out)
  go_wp2_with (fail)
  refine (works_any _ (hL.out.keep kx.out)).mono ?_
  rintro e W6 ⟨rfl, bv⟩
  have kx6 := Lib.hid (kx.out.trans (bv.mono kx.out.size))
  have hBn_6 := Lib.hid ((bv.block _ (blkX hBn.out)).trans hBn.out)
  have hBn2_6 := Lib.hid ((bv.block _ (blkX hBn2.out)).trans hBn2.out)
  clear bv kx; have kx := kx6; clear kx6
  clear hBn; have hBn := hBn_6; clear hBn_6
  clear hBn2; have hBn2 := hBn2_6; clear hBn2_6
  go_wp2_with (fail)
  go_ret
  exact ⟨rfl, kx.out⟩
end Go.Proofs.YtlinjanflenljaaGreatDoor
