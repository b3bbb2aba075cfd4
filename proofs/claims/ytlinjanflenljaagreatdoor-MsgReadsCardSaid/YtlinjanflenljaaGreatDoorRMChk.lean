/- The reference's Check and Encode. -/
import Derived.Test.YtlinjanflenljaaGreatDoorRVal
import Derived.Test.YtlinjanflenljaaGreatDoorRWr
import Derived.Test.YtlinjanflenljaaGreatDoorEnc
namespace Go.Proofs.YtlinjanflenljaaGreatDoor
open Go.RowKit
set_option linter.unusedSimpArgs false
set_option linter.unusedVariables false
set_option linter.unusedSectionVars false
set_option maxRecDepth 10000
set_option maxHeartbeats 16000000 in
theorem rchk_any (m : Mg) (A : Option Addr) (c : Nat) (w : World) (hE : ES w A m.l.length m.l) (hn : m.l.length ≤ 70368744177664) :
    Calls Tryz.prog 24 #[.agg #[.int .i64 m.k, .int .i64 m.fr, .int .i64 m.tt, .int .i64 m.ro, .int .i64 m.no, .int .i64 m.sl, .int .i64 m.nu, .string (sOf m.v), .slice A m.l.length c]] w fun e w' => e = .returned (.int .i64 (encE m)) ∧ Below w.heap.size w w' := by
  obtain ⟨U, hU⟩ : ∃ U, U = w.alloc (.cells #[.int .i64 m.k, .int .i64 m.fr, .int .i64 m.tt, .int .i64 m.ro, .int .i64 m.no, .int .i64 m.sl, .int .i64 m.nu, .string (sOf m.v), .slice A m.l.length c] 28) := ⟨_, rfl⟩
  have kb : Below w.heap.size w U := by rw [hU]; exact (Below.refl _ w).alloc (Nat.le_refl _) _
  have hB : U.heap[w.heap.size]? = some (.cells #[.int .i64 m.k, .int .i64 m.fr, .int .i64 m.tt, .int .i64 m.ro, .int .i64 m.no, .int .i64 m.sl, .int .i64 m.nu, .string (sOf m.v), .slice A m.l.length c] 28 (0, 0)) := by rw [hU]; exact hpNew w _
  have hva := fun V hV => rvalid_any m A c V hV hn
  have hsz := sOf_size m.v
  have hwr := fun V h h' hV => rwrite_any m A c V h h' hV
  replace kb := Lib.hid kb; replace hB := Lib.hid hB; replace hE := Lib.hid hE; replace hwr := Lib.hid hwr
  have u0 : U.cell? ⟨w.heap.size, 0, none⟩ = some (.int .i64 m.k) := blkC hB.out 0
  have u1 : U.cell? ⟨w.heap.size, 1, none⟩ = some (.int .i64 m.fr) := blkC hB.out 1
  have u2 : U.cell? ⟨w.heap.size, 2, none⟩ = some (.int .i64 m.tt) := blkC hB.out 2
  have u3 : U.cell? ⟨w.heap.size, 3, none⟩ = some (.int .i64 m.ro) := blkC hB.out 3
  have u4 : U.cell? ⟨w.heap.size, 4, none⟩ = some (.int .i64 m.no) := blkC hB.out 4
  have u5 : U.cell? ⟨w.heap.size, 5, none⟩ = some (.int .i64 m.sl) := blkC hB.out 5
  have u6 : U.cell? ⟨w.heap.size, 6, none⟩ = some (.int .i64 m.nu) := blkC hB.out 6
  have u7 : U.cell? ⟨w.heap.size, 7, none⟩ = some (.string (sOf m.v)) := blkC hB.out 7
  have u8 : U.cell? ⟨w.heap.size, 8, none⟩ = some (.slice A m.l.length c) := blkC hB.out 8
  have lU := blkX hB.out
  by_cases ha : argOK m = true
  rotate_left
  · have hfin := Lib.hid (enc_arg (eq_false_of_ne_true ha))
    rw [eq_false_of_ne_true ha] at hva
    replace hva := hva
    clear ha hwr
    go_enter Tryz.func24, Tryz.ntmps24
    go_wp2_with (fail)
    rw [← hU]
    clear hU
    refine (hva _ (SL.keep hE.out kb.out)).mono ?_
    rintro e W1 ⟨rfl, b1⟩
    have kb1 := Lib.hid (kb.out.trans (b1.mono kb.out.size))
    have hB1 := Lib.hid ((b1.block _ (blkX hB.out)).trans hB.out)
    clear u0 u1 u2 u3 u4 u5 u6 u7 u8 lU
    clear b1 kb hB
    have kb := kb1; have hB := hB1; clear kb1 hB1
    have u0 : W1.cell? ⟨w.heap.size, 0, none⟩ = some (.int .i64 m.k) := blkC hB.out 0
    have u1 : W1.cell? ⟨w.heap.size, 1, none⟩ = some (.int .i64 m.fr) := blkC hB.out 1
    have u2 : W1.cell? ⟨w.heap.size, 2, none⟩ = some (.int .i64 m.tt) := blkC hB.out 2
    have u3 : W1.cell? ⟨w.heap.size, 3, none⟩ = some (.int .i64 m.ro) := blkC hB.out 3
    have u4 : W1.cell? ⟨w.heap.size, 4, none⟩ = some (.int .i64 m.no) := blkC hB.out 4
    have u5 : W1.cell? ⟨w.heap.size, 5, none⟩ = some (.int .i64 m.sl) := blkC hB.out 5
    have u6 : W1.cell? ⟨w.heap.size, 6, none⟩ = some (.int .i64 m.nu) := blkC hB.out 6
    have u7 : W1.cell? ⟨w.heap.size, 7, none⟩ = some (.string (sOf m.v)) := blkC hB.out 7
    have u8 : W1.cell? ⟨w.heap.size, 8, none⟩ = some (.slice A m.l.length c) := blkC hB.out 8
    have lU := blkX hB.out
    clear hva
    go_wp2_with (fail)
    go_ret
    exact ⟨by rw [hfin.out]; rfl, kb.out⟩
  rw [ha] at hva
  by_cases hv : 65536 < m.v.length
  · have hfin := Lib.hid (enc_long ha (show longM m = true from by rw [longM_or, decide_eq_true hv]; rfl))
    have h1 : (65536 : Int) < ((sOf m.v).size : Int) := by omega
    replace hsz := Lib.hid hsz; replace ha := Lib.hid ha
    clear hv hwr
    go_enter Tryz.func24, Tryz.ntmps24
    go_wp2_with (fail)
    rw [← hU]
    clear hU
    refine (hva _ (SL.keep hE.out kb.out)).mono ?_
    rintro e W1 ⟨rfl, b1⟩
    have kb1 := Lib.hid (kb.out.trans (b1.mono kb.out.size))
    have hB1 := Lib.hid ((b1.block _ (blkX hB.out)).trans hB.out)
    clear u0 u1 u2 u3 u4 u5 u6 u7 u8 lU
    clear b1 kb hB
    have kb := kb1; have hB := hB1; clear kb1 hB1
    have u0 : W1.cell? ⟨w.heap.size, 0, none⟩ = some (.int .i64 m.k) := blkC hB.out 0
    have u1 : W1.cell? ⟨w.heap.size, 1, none⟩ = some (.int .i64 m.fr) := blkC hB.out 1
    have u2 : W1.cell? ⟨w.heap.size, 2, none⟩ = some (.int .i64 m.tt) := blkC hB.out 2
    have u3 : W1.cell? ⟨w.heap.size, 3, none⟩ = some (.int .i64 m.ro) := blkC hB.out 3
    have u4 : W1.cell? ⟨w.heap.size, 4, none⟩ = some (.int .i64 m.no) := blkC hB.out 4
    have u5 : W1.cell? ⟨w.heap.size, 5, none⟩ = some (.int .i64 m.sl) := blkC hB.out 5
    have u6 : W1.cell? ⟨w.heap.size, 6, none⟩ = some (.int .i64 m.nu) := blkC hB.out 6
    have u7 : W1.cell? ⟨w.heap.size, 7, none⟩ = some (.string (sOf m.v)) := blkC hB.out 7
    have u8 : W1.cell? ⟨w.heap.size, 8, none⟩ = some (.slice A m.l.length c) := blkC hB.out 8
    have lU := blkX hB.out
    clear hva
    go_wp2_with (fail)
    go_ret
    exact ⟨by rw [hfin.out]; rfl, kb.out⟩
  have h1 : ¬ (65536 : Int) < ((sOf m.v).size : Int) := by omega
  have hlo : longM m = m.l.any longE := by rw [longM_or, decide_eq_false hv, Bool.false_or]
  obtain ⟨n, hN⟩ : ∃ n, n = m.l.length := ⟨_, rfl⟩
  replace hsz := Lib.hid hsz; replace ha := Lib.hid ha; replace hlo := Lib.hid hlo; replace hN := Lib.hid hN
  clear hv
  go_enter Tryz.func24, Tryz.ntmps24
  go_wp2_with (fail)
  rw [← hU]
  clear hU
  refine (hva _ (SL.keep hE.out kb.out)).mono ?_
  rintro e W1 ⟨rfl, b1⟩
  have kb1 := Lib.hid (kb.out.trans (b1.mono kb.out.size))
  have hB1 := Lib.hid ((b1.block _ (blkX hB.out)).trans hB.out)
  clear u0 u1 u2 u3 u4 u5 u6 u7 u8 lU
  clear b1 kb hB
  have kb := kb1; have hB := hB1; clear kb1 hB1
  have u0 : W1.cell? ⟨w.heap.size, 0, none⟩ = some (.int .i64 m.k) := blkC hB.out 0
  have u1 : W1.cell? ⟨w.heap.size, 1, none⟩ = some (.int .i64 m.fr) := blkC hB.out 1
  have u2 : W1.cell? ⟨w.heap.size, 2, none⟩ = some (.int .i64 m.tt) := blkC hB.out 2
  have u3 : W1.cell? ⟨w.heap.size, 3, none⟩ = some (.int .i64 m.ro) := blkC hB.out 3
  have u4 : W1.cell? ⟨w.heap.size, 4, none⟩ = some (.int .i64 m.no) := blkC hB.out 4
  have u5 : W1.cell? ⟨w.heap.size, 5, none⟩ = some (.int .i64 m.sl) := blkC hB.out 5
  have u6 : W1.cell? ⟨w.heap.size, 6, none⟩ = some (.int .i64 m.nu) := blkC hB.out 6
  have u7 : W1.cell? ⟨w.heap.size, 7, none⟩ = some (.string (sOf m.v)) := blkC hB.out 7
  have u8 : W1.cell? ⟨w.heap.size, 8, none⟩ = some (.slice A m.l.length c) := blkC hB.out 8
  have lU := blkX hB.out
  clear hva
  go_wp2_with (fail)
  go_loopw [3] (fun i wr => ∃ k : Nat, k ≤ m.l.length ∧ i = .int .i64 k ∧ (m.l.take k).any longE = false ∧ wr = W1) (fun i _ => m.l.length - (intOf i).toNat)
  case atStart => exact ⟨0, by omega, rfl, rfl, rfl⟩
  case round =>
    revert wr
    intro Y hrel
    obtain ⟨k, hk, rfl, hno, rfl⟩ := hrel
    by_cases hlt : k < m.l.length
    · obtain ⟨b, o, x, rfl, hbl, hx, c0, c1, c2, c3⟩ := ES.at_ hE.out hlt
      have k0 : (0 : Int) ≤ k := by omega
      have k1 : (k : Int) < (m.l.length : Int) := by omega
      have hxs := sOf_size x.v
      have c3 := (kb.out.cell (p := ⟨b, o + k * 4 + 3, none⟩) hbl).trans c3
      replace c0 := Lib.hid c0; replace c1 := Lib.hid c1; replace c2 := Lib.hid c2
      rcases Bool.eq_false_or_eq_true (longE x) with hg | hg
      · have hfin := Lib.hid (enc_long ha.out (show longM m = true from by rw [hlo.out]; exact any_here hx hg))
        have h2 : (65536 : Int) < ((sOf x.v).size : Int) := by have := of_decide_eq_true hg; omega
        replace hxs := Lib.hid hxs; replace hN := Lib.hid hN
        clear hx hno hg
        go_wp2_with (fail)
        go_ret
        exact ⟨by rw [hfin.out]; rfl, kb.out⟩
      · have hnx := Lib.hid (show (m.l.take (k + 1)).any longE = false from by rw [any_take hx, hno, hg]; rfl)
        have h2 : ¬ (65536 : Int) < ((sOf x.v).size : Int) := by have := of_decide_eq_false hg; omega
        replace hxs := Lib.hid hxs
        clear hx hno hg
        go_wp2_with (fail)
        exact ⟨⟨k + 1, by omega, by go_num, hnx.out, by trivial⟩, by simp [intOf]; omega⟩
    · obtain rfl : k = m.l.length := by omega
      have hlm : ¬ longM m = true := by rw [hlo.out, ← List.take_length (l := m.l), hno]; decide
      clear hno
      have hlm2 := Lib.hid hlm
      have hw2 := fun V hV => hwr.out V ha.out hlm hV
      clear hlm hwr
      go_wp2_with (fail)
      refine (hw2 _ (SL.keep hE.out kb.out)).mono ?_
      rintro e W2 ⟨A2, c2, rfl, hi⟩
      have b2 := hi.2
      have kb2 := Lib.hid (kb.out.trans (b2.mono kb.out.size))
      clear hi b2 hw2 u0 u1 u2 u3 u4 u5 u6 u7 u8 lU
      by_cases hbg : 1048576 < (bytesM m).length
      · have hfin := Lib.hid (enc_big ha.out hbg)
        have h2 : (1048576 : Int) < ((bytesM m).length : Int) := by omega
        clear hbg
        go_wp2_with (fail)
        go_ret
        exact ⟨by rw [hfin.out]; rfl, kb2.out⟩
      · have hfin := Lib.hid (enc_fine ha.out hlm2.out hbg)
        have h2 : ¬ (1048576 : Int) < ((bytesM m).length : Int) := by omega
        clear hbg
        go_wp2_with (fail)
        go_ret
        exact ⟨by rw [hfin.out]; rfl, kb2.out⟩
set_option maxHeartbeats 4000000 in
theorem renc_any (m : Mg) (A : Option Addr) (c : Nat) (w : World) (hE : ES w A m.l.length m.l) (hn : m.l.length ≤ 70368744177664) :
    Calls Tryz.prog 22 #[.agg #[.int .i64 m.k, .int .i64 m.fr, .int .i64 m.tt, .int .i64 m.ro, .int .i64 m.no, .int .i64 m.sl, .int .i64 m.nu, .string (sOf m.v), .slice A m.l.length c]] w fun e w' => EncTo w m e w' := by
  obtain ⟨U, hU⟩ : ∃ U, U = w.alloc (.cells #[.int .i64 m.k, .int .i64 m.fr, .int .i64 m.tt, .int .i64 m.ro, .int .i64 m.no, .int .i64 m.sl, .int .i64 m.nu, .string (sOf m.v), .slice A m.l.length c] 28) := ⟨_, rfl⟩
  have kb : Below w.heap.size w U := by rw [hU]; exact (Below.refl _ w).alloc (Nat.le_refl _) _
  have hB : U.heap[w.heap.size]? = some (.cells #[.int .i64 m.k, .int .i64 m.fr, .int .i64 m.tt, .int .i64 m.ro, .int .i64 m.no, .int .i64 m.sl, .int .i64 m.nu, .string (sOf m.v), .slice A m.l.length c] 28 (0, 0)) := by rw [hU]; exact hpNew w _
  have hc := rchk_any m A c U (SL.keep hE kb) hn
  replace kb := Lib.hid kb; replace hB := Lib.hid hB
  have u0 : U.cell? ⟨w.heap.size, 0, none⟩ = some (.int .i64 m.k) := blkC hB.out 0
  have u1 : U.cell? ⟨w.heap.size, 1, none⟩ = some (.int .i64 m.fr) := blkC hB.out 1
  have u2 : U.cell? ⟨w.heap.size, 2, none⟩ = some (.int .i64 m.tt) := blkC hB.out 2
  have u3 : U.cell? ⟨w.heap.size, 3, none⟩ = some (.int .i64 m.ro) := blkC hB.out 3
  have u4 : U.cell? ⟨w.heap.size, 4, none⟩ = some (.int .i64 m.no) := blkC hB.out 4
  have u5 : U.cell? ⟨w.heap.size, 5, none⟩ = some (.int .i64 m.sl) := blkC hB.out 5
  have u6 : U.cell? ⟨w.heap.size, 6, none⟩ = some (.int .i64 m.nu) := blkC hB.out 6
  have u7 : U.cell? ⟨w.heap.size, 7, none⟩ = some (.string (sOf m.v)) := blkC hB.out 7
  have u8 : U.cell? ⟨w.heap.size, 8, none⟩ = some (.slice A m.l.length c) := blkC hB.out 8
  have lU := blkX hB.out
  by_cases h0 : encE m = 0
  · obtain ⟨ha, hl, -⟩ := encE_ok h0
    have hb : encB m = bytesM m := by unfold encB; rw [if_pos h0]
    have hwr := fun V hV => rwrite_any m A c V ha hl hV
    rw [h0] at hc
    replace hwr := Lib.hid hwr; replace hb := Lib.hid hb; replace h0 := Lib.hid h0; replace hE := Lib.hid hE
    clear ha hl
    go_enter Tryz.func22, Tryz.ntmps22
    go_wp2_with (fail)
    rw [← hU]
    clear hU
    refine hc.mono ?_
    rintro e W1 ⟨rfl, b1⟩
    have kb1 := Lib.hid (kb.out.trans (b1.mono kb.out.size))
    have hB1 := Lib.hid ((b1.block _ (blkX hB.out)).trans hB.out)
    clear u0 u1 u2 u3 u4 u5 u6 u7 u8 lU
    clear b1 kb hB
    have kb := kb1; have hB := hB1; clear kb1 hB1
    have u0 : W1.cell? ⟨w.heap.size, 0, none⟩ = some (.int .i64 m.k) := blkC hB.out 0
    have u1 : W1.cell? ⟨w.heap.size, 1, none⟩ = some (.int .i64 m.fr) := blkC hB.out 1
    have u2 : W1.cell? ⟨w.heap.size, 2, none⟩ = some (.int .i64 m.tt) := blkC hB.out 2
    have u3 : W1.cell? ⟨w.heap.size, 3, none⟩ = some (.int .i64 m.ro) := blkC hB.out 3
    have u4 : W1.cell? ⟨w.heap.size, 4, none⟩ = some (.int .i64 m.no) := blkC hB.out 4
    have u5 : W1.cell? ⟨w.heap.size, 5, none⟩ = some (.int .i64 m.sl) := blkC hB.out 5
    have u6 : W1.cell? ⟨w.heap.size, 6, none⟩ = some (.int .i64 m.nu) := blkC hB.out 6
    have u7 : W1.cell? ⟨w.heap.size, 7, none⟩ = some (.string (sOf m.v)) := blkC hB.out 7
    have u8 : W1.cell? ⟨w.heap.size, 8, none⟩ = some (.slice A m.l.length c) := blkC hB.out 8
    have lU := blkX hB.out
    clear hc
    go_wp2_with (fail)
    refine (hwr.out _ (SL.keep hE.out kb.out)).mono ?_
    rintro e W2 ⟨A2, c2, rfl, hi⟩
    have hi2 : IsBytes w A2 c2 (encB m) W2 := by rw [hb.out]; exact ⟨hi.1.mono kb.out.size, kb.out.trans (hi.2.mono kb.out.size)⟩
    have hlen := congrArg List.length hb.out
    rw [← hlen]
    replace hi2 := Lib.hid hi2; replace hlen := Lib.hid hlen
    clear hi u0 u1 u2 u3 u4 u5 u6 u7 u8 lU
    go_wp2_with (fail)
    go_ret2
    exact ⟨A2, c2, by rw [h0.out]; rfl, hi2.out⟩
  · obtain ⟨z, hz⟩ : ∃ z, encE m = z := ⟨_, rfl⟩
    rw [hz] at hc
    have hz0 : ¬ z = 0 := fun q => h0 (hz.trans q)
    have hz1 := Lib.hid (fun W b => EncTo.err (w := w) (w' := W) hz hz0 b)
    have hzb : (z == 0) = false := by simp [hz0]
    replace hz := Lib.hid hz
    clear h0
    go_enter Tryz.func22, Tryz.ntmps22
    go_wp2_with (fail)
    rw [← hU]
    clear hU
    refine hc.mono ?_
    rintro e W1 ⟨rfl, b1⟩
    have kb1 := Lib.hid (kb.out.trans (b1.mono kb.out.size))
    clear u0 u1 u2 u3 u4 u5 u6 u7 u8 lU b1
    go_wp2_with (fail)
    go_ret2
    exact hz1.out _ kb1.out
end Go.Proofs.YtlinjanflenljaaGreatDoor
