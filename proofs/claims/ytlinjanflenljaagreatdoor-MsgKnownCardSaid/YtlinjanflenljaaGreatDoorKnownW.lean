/- MsgKnown: the walk. -/
import Derived.Test.YtlinjanflenljaaGreatDoorKnownC
import Derived.Test.YtlinjanflenljaaGreatDoorKnownM
namespace Go.Proofs.YtlinjanflenljaaGreatDoor
open Go.RowKit
set_option linter.unusedSimpArgs false
set_option linter.unusedVariables false
set_option linter.unusedSectionVars false
set_option maxRecDepth 10000
attribute [local go_sem ↓] hideAppend
attribute [-go_sem] sliced run_slice_string_l
set_option maxHeartbeats 64000000 in
theorem known_walk (w : World) (hL : Ldr w) : Calls Tryz.prog 9 #[] w fun e w' => e = .returned (.bool true) ∧ Below w.heap.size w w' := by
 obtain ⟨U, hU⟩ : ∃ U, U = w.alloc (.cells #[.int .i64 2, .int .i64 1] 25) := ⟨_, rfl⟩
 have kx := Lib.hid (show Below w.heap.size w U from by rw [hU]; exact (Below.refl _ w).alloc (Nat.le_refl _) _)
 have hBb := Lib.hid (show U.heap[w.heap.size]? = some (.cells #[.int .i64 2, .int .i64 1] 25 (0, 0)) from by rw [hU]; exact hpNew w _)
 replace hL := Lib.hid hL
 go_enter Tryz.func9, Tryz.ntmps9
 go_wp2_with (fail)
 rw [← hU]
 clear hU
 refine (kA_call U (hL.out.keep kx.out)).mono ?_
 rintro e W1 ⟨rfl, b1⟩
 have kx1 := Lib.hid (kx.out.trans (b1.mono kx.out.size))
 have hBb_1 := Lib.hid ((b1.block _ (blkX hBb.out)).trans hBb.out)
 clear b1 kx; have kx := kx1; clear kx1
 clear hBb; have hBb := hBb_1; clear hBb_1
 have b0 : W1.cell? ⟨w.heap.size, 0, none⟩ = some (.int .i64 2) := blkC hBb.out 0
 have b1 : W1.cell? ⟨w.heap.size, 1, none⟩ = some (.int .i64 1) := blkC hBb.out 1
 have lb := blkX hBb.out
 go_wp2_with (fail)
 refine (kB_call _ (hL.out.keep kx.out)).mono ?_
 rintro e W2 ⟨A1, c1, rfl, ⟨o1, b1⟩⟩
 have kx2 := Lib.hid (kx.out.trans (b1.mono kx.out.size))
 have hBb_2 := Lib.hid ((b1.block _ (blkX hBb.out)).trans hBb.out)
 have hr1 := (RB.of_own o1).str c1
 simp only [List.length_cons, List.length_nil, Nat.zero_add, Nat.reduceAdd] at hr1
 clear b0 b1 lb o1
 clear b1 kx; have kx := kx2; clear kx2
 clear hBb; have hBb := hBb_2; clear hBb_2
 have b0 : W2.cell? ⟨w.heap.size, 0, none⟩ = some (.int .i64 2) := blkC hBb.out 0
 have b1 : W2.cell? ⟨w.heap.size, 1, none⟩ = some (.int .i64 1) := blkC hBb.out 1
 have lb := blkX hBb.out
 obtain ⟨G0, hG0⟩ : ∃ G, G = (W2.alloc (.cells #[.int .i64 4095, .int .i64 2, .int .i64 1, .string ⟨#[]⟩] 45)).alloc (.cells (goodC W2.heap.size) 28) := ⟨_, rfl⟩
 have bb : Below W2.heap.size W2 G0 := by rw [hG0]; exact ((Below.refl _ W2).alloc (Nat.le_refl _) _).alloc (by simp) _
 have hq1 := Lib.hid (show G0.heap[W2.heap.size]? = some (.cells #[.int .i64 4095, .int .i64 2, .int .i64 1, .string ⟨#[]⟩] 45 (0, 0)) from by rw [hG0]; exact (hpOld _ (by simp)).trans (hpNew _ _))
 have hq2 := Lib.hid (show G0.heap[W2.heap.size + 1]? = some (.cells (goodC W2.heap.size) 28 (0, 0)) from by rw [hG0]; exact hpNewAt _ (by simp))
 have hall := Lib.hid (fun j (hj : j < 11) => good_at hq2.out hq1.out hj)
 unfold goodC at hG0
 go_wp2_with (fail)
 rw [← hG0]
 replace hG0 := Lib.hid hG0
 have kx3 := Lib.hid (kx.out.trans (bb.mono kx.out.size))
 have hBb_3 := Lib.hid ((bb.block _ (blkX hBb.out)).trans hBb.out)
 clear b0 b1 lb hr1
 clear bb kx hBb; have kx := kx3; have hBb := hBb_3; clear kx3 hBb_3
 have lR := Lib.hid (blkX hq2.out)
 go_loopw [7] (fun i wr => ∃ j : Nat, j ≤ 11 ∧ i = .int .i64 j ∧ Below G0.heap.size G0 wr) (fun i _ => 11 - (intOf i).toNat)
 case atStart => exact ⟨0, by omega, rfl, Below.refl _ _⟩
 case round =>
  revert wr
  intro V hrel
  obtain ⟨j, hj, rfl, hbw⟩ := hrel
  have kV := Lib.hid (kx.out.trans (hbw.mono kx.out.size))
  by_cases hlt : j < 11
  · obtain ⟨m, A, c, henc, hml, hpx, hes, c0, c1, c2, c3, c4, c5, c6, c7, c8⟩ := hall.out j hlt
    replace c0 := Lib.hid c0
    replace c1 := Lib.hid c1
    replace c2 := Lib.hid c2
    replace c3 := Lib.hid c3
    replace c4 := Lib.hid c4
    replace c5 := Lib.hid c5
    replace c6 := Lib.hid c6
    replace c7 := Lib.hid c7
    replace c8 := Lib.hid c8
    have d0 : V.cell? ⟨W2.heap.size + 1, j * 9, none⟩ = some (.int .i64 m.k) := (hbw.cell (p := ⟨W2.heap.size + 1, j * 9, none⟩) lR.out).trans c0.out
    have d1 : V.cell? ⟨W2.heap.size + 1, j * 9 + 1, none⟩ = some (.int .i64 m.fr) := (hbw.cell (p := ⟨W2.heap.size + 1, j * 9 + 1, none⟩) lR.out).trans c1.out
    have d2 : V.cell? ⟨W2.heap.size + 1, j * 9 + 2, none⟩ = some (.int .i64 m.tt) := (hbw.cell (p := ⟨W2.heap.size + 1, j * 9 + 2, none⟩) lR.out).trans c2.out
    have d3 : V.cell? ⟨W2.heap.size + 1, j * 9 + 3, none⟩ = some (.int .i64 m.ro) := (hbw.cell (p := ⟨W2.heap.size + 1, j * 9 + 3, none⟩) lR.out).trans c3.out
    have d4 : V.cell? ⟨W2.heap.size + 1, j * 9 + 4, none⟩ = some (.int .i64 m.no) := (hbw.cell (p := ⟨W2.heap.size + 1, j * 9 + 4, none⟩) lR.out).trans c4.out
    have d5 : V.cell? ⟨W2.heap.size + 1, j * 9 + 5, none⟩ = some (.int .i64 m.sl) := (hbw.cell (p := ⟨W2.heap.size + 1, j * 9 + 5, none⟩) lR.out).trans c5.out
    have d6 : V.cell? ⟨W2.heap.size + 1, j * 9 + 6, none⟩ = some (.int .i64 m.nu) := (hbw.cell (p := ⟨W2.heap.size + 1, j * 9 + 6, none⟩) lR.out).trans c6.out
    have d7 : V.cell? ⟨W2.heap.size + 1, j * 9 + 7, none⟩ = some (.string (sOf m.v)) := (hbw.cell (p := ⟨W2.heap.size + 1, j * 9 + 7, none⟩) lR.out).trans c7.out
    have d8 : V.cell? ⟨W2.heap.size + 1, j * 9 + 8, none⟩ = some (.slice A m.l.length c) := (hbw.cell (p := ⟨W2.heap.size + 1, j * 9 + 8, none⟩) lR.out).trans c8.out
    have heb : encB m = bytesM m := by unfold encB; rw [if_pos henc]
    have hbl := (encE_ok henc).2.2
    have hdb := dec_back m henc
    obtain ⟨B, hB⟩ : ∃ B, B = bytesM m := ⟨_, rfl⟩
    rewrite [← hB] at heb hbl hdb
    obtain ⟨nb, hnb⟩ : ∃ n, B.length = n := ⟨_, rfl⟩
    rewrite [hnb] at hbl
    have hee := enc_any m A c V (hL.out.keep kV.out) (SL.keep hes hbw) (by omega)
    unfold EncTo at hee
    rewrite [heb, henc, hnb] at hee
    obtain ⟨nm, hnm⟩ : ∃ n, m.l.length = n := ⟨_, rfl⟩
    have j0 : (0 : Int) ≤ (j : Int) := by omega
    have j1 : (j : Int) < 11 := by omega
    replace hnm := Lib.hid hnm; replace heb := Lib.hid heb; replace hdb := Lib.hid hdb; replace hB := Lib.hid hB; replace hnb := Lib.hid hnb; replace henc := Lib.hid henc; replace hes := Lib.hid hes; replace hpx := Lib.hid hpx; replace hbw := Lib.hid hbw
    go_wp2_with (fail)
    refine hee.mono ?_
    rintro e V1 ⟨A1, q1, rfl, ho1, b1⟩
    clear hee d0 d1 d2 d3 d4 d5 d6 d7 d8
    have hr1 : RB V1 A1 nb B := by have := RB.of_own ho1; rwa [hnb.out] at this
    have k1 := Lib.hid (kV.out.trans (b1.mono kV.out.size))
    have w1 := Lib.hid (hbw.out.trans (b1.mono hbw.out.size))
    have hdd := dec_msg_any (c := q1) (hL.out.keep k1.out) hr1 (by omega) hdb.out
    replace hr1 := Lib.hid hr1
    clear ho1 b1 kV hbw
    go_wp2_with (fail)
    refine hdd.mono ?_
    rintro e V2 ⟨A2, q2, rfl, he2, b2⟩
    have k2 := Lib.hid (k1.out.trans (b2.mono k1.out.size))
    have w2 := Lib.hid (w1.out.trans (b2.mono w1.out.size))
    clear hdd hr1 b2 k1 w1
    obtain ⟨V3, hV3⟩ : ∃ W', W' = V2.alloc (.cells #[.int .i64 m.k, .int .i64 m.fr, .int .i64 m.tt, .int .i64 m.ro, .int .i64 m.no, .int .i64 m.sl, .int .i64 m.nu, .string (sOf m.v), .slice A2 m.l.length q2] 28) := ⟨_, rfl⟩
    have bb : Below V2.heap.size V2 V3 := by rw [hV3]; exact (Below.refl _ V2).alloc (Nat.le_refl _) _
    have hBy := Lib.hid (show V3.heap[V2.heap.size]? = some (.cells #[.int .i64 m.k, .int .i64 m.fr, .int .i64 m.tt, .int .i64 m.ro, .int .i64 m.no, .int .i64 m.sl, .int .i64 m.nu, .string (sOf m.v), .slice A2 m.l.length q2] 28 (0, 0)) from by rw [hV3]; exact hpNew V2 _)
    have k3 := Lib.hid (k2.out.trans (bb.mono k2.out.size))
    have w3 := Lib.hid (w2.out.trans (bb.mono w2.out.size))
    have he3 := Lib.hid (SL.keep he2 bb)
    clear bb he2 k2 w2
    go_wp2_with (fail)
    rw [← hV3]
    replace hV3 := Lib.hid hV3
    have hSv : ∀ W' : World, W'.heap[V2.heap.size]? = some (.cells #[.int .i64 m.k, .int .i64 m.fr, .int .i64 m.tt, .int .i64 m.ro, .int .i64 m.no, .int .i64 m.sl, .int .i64 m.nu, .string (sOf m.v), .slice A2 m.l.length q2] 28 (0, 0)) → Below G0.heap.size G0 W' → (fun W' : World => W'.cell? ⟨V2.heap.size, 0, none⟩ = some (.int .i64 m.k) ∧ W'.cell? ⟨V2.heap.size, 1, none⟩ = some (.int .i64 m.fr) ∧ W'.cell? ⟨V2.heap.size, 2, none⟩ = some (.int .i64 m.tt) ∧ W'.cell? ⟨V2.heap.size, 3, none⟩ = some (.int .i64 m.ro) ∧ W'.cell? ⟨V2.heap.size, 4, none⟩ = some (.int .i64 m.no) ∧ W'.cell? ⟨V2.heap.size, 5, none⟩ = some (.int .i64 m.sl) ∧ W'.cell? ⟨V2.heap.size, 6, none⟩ = some (.int .i64 m.nu) ∧ W'.cell? ⟨V2.heap.size, 7, none⟩ = some (.string (sOf m.v)) ∧ W'.cell? ⟨V2.heap.size, 8, none⟩ = some (.slice A2 m.l.length q2) ∧ W'.cell? ⟨W2.heap.size + 1, j * 9, none⟩ = some (.int .i64 m.k) ∧ W'.cell? ⟨W2.heap.size + 1, j * 9 + 1, none⟩ = some (.int .i64 m.fr) ∧ W'.cell? ⟨W2.heap.size + 1, j * 9 + 2, none⟩ = some (.int .i64 m.tt) ∧ W'.cell? ⟨W2.heap.size + 1, j * 9 + 3, none⟩ = some (.int .i64 m.ro) ∧ W'.cell? ⟨W2.heap.size + 1, j * 9 + 4, none⟩ = some (.int .i64 m.no) ∧ W'.cell? ⟨W2.heap.size + 1, j * 9 + 5, none⟩ = some (.int .i64 m.sl) ∧ W'.cell? ⟨W2.heap.size + 1, j * 9 + 6, none⟩ = some (.int .i64 m.nu) ∧ W'.cell? ⟨W2.heap.size + 1, j * 9 + 7, none⟩ = some (.string (sOf m.v)) ∧ W'.cell? ⟨W2.heap.size + 1, j * 9 + 8, none⟩ = some (.slice A m.l.length c)) W' := by
      intro W' h1 h2
      exact ⟨blkC h1 0, blkC h1 1, blkC h1 2, blkC h1 3, blkC h1 4, blkC h1 5, blkC h1 6, blkC h1 7, blkC h1 8, (h2.cell (p := ⟨W2.heap.size + 1, j * 9, none⟩) lR.out).trans c0.out, (h2.cell (p := ⟨W2.heap.size + 1, j * 9 + 1, none⟩) lR.out).trans c1.out, (h2.cell (p := ⟨W2.heap.size + 1, j * 9 + 2, none⟩) lR.out).trans c2.out, (h2.cell (p := ⟨W2.heap.size + 1, j * 9 + 3, none⟩) lR.out).trans c3.out, (h2.cell (p := ⟨W2.heap.size + 1, j * 9 + 4, none⟩) lR.out).trans c4.out, (h2.cell (p := ⟨W2.heap.size + 1, j * 9 + 5, none⟩) lR.out).trans c5.out, (h2.cell (p := ⟨W2.heap.size + 1, j * 9 + 6, none⟩) lR.out).trans c6.out, (h2.cell (p := ⟨W2.heap.size + 1, j * 9 + 7, none⟩) lR.out).trans c7.out, (h2.cell (p := ⟨W2.heap.size + 1, j * 9 + 8, none⟩) lR.out).trans c8.out⟩
    replace hSv := Lib.hid hSv
    have hE := fun V hx hy => equal_m m m A2 A q2 c V hx hy (by omega) (by omega)
    simp only [show decide (m = m) = true from decide_eq_true rfl] at hE
    have hP := fun V => paxos_any m.k V
    simp only [hpx.out] at hP
    replace hE := Lib.hid hE; replace hP := Lib.hid hP
    have bD : Below V3.heap.size V3 V3.drew := (Below.refl _ V3).drew
    have k4 := Lib.hid (k3.out.trans (bD.mono k3.out.size))
    have w4 := Lib.hid (w3.out.trans (bD.mono w3.out.size))
    have he4 := Lib.hid (SL.keep he3.out bD)
    have hBy4 := Lib.hid ((bD.block _ (blkX hBy.out)).trans hBy.out)
    clear k3 w3 he3 hBy; have k3 := k4; have w3 := w4; have he3 := he4; have hBy := hBy4; clear k4 w4 he4 hBy4
    clear bD
    refine wp_region_held_drew (S := (fun W' : World => W'.cell? ⟨V2.heap.size, 0, none⟩ = some (.int .i64 m.k) ∧ W'.cell? ⟨V2.heap.size, 1, none⟩ = some (.int .i64 m.fr) ∧ W'.cell? ⟨V2.heap.size, 2, none⟩ = some (.int .i64 m.tt) ∧ W'.cell? ⟨V2.heap.size, 3, none⟩ = some (.int .i64 m.ro) ∧ W'.cell? ⟨V2.heap.size, 4, none⟩ = some (.int .i64 m.no) ∧ W'.cell? ⟨V2.heap.size, 5, none⟩ = some (.int .i64 m.sl) ∧ W'.cell? ⟨V2.heap.size, 6, none⟩ = some (.int .i64 m.nu) ∧ W'.cell? ⟨V2.heap.size, 7, none⟩ = some (.string (sOf m.v)) ∧ W'.cell? ⟨V2.heap.size, 8, none⟩ = some (.slice A2 m.l.length q2) ∧ W'.cell? ⟨W2.heap.size + 1, j * 9, none⟩ = some (.int .i64 m.k) ∧ W'.cell? ⟨W2.heap.size + 1, j * 9 + 1, none⟩ = some (.int .i64 m.fr) ∧ W'.cell? ⟨W2.heap.size + 1, j * 9 + 2, none⟩ = some (.int .i64 m.tt) ∧ W'.cell? ⟨W2.heap.size + 1, j * 9 + 3, none⟩ = some (.int .i64 m.ro) ∧ W'.cell? ⟨W2.heap.size + 1, j * 9 + 4, none⟩ = some (.int .i64 m.no) ∧ W'.cell? ⟨W2.heap.size + 1, j * 9 + 5, none⟩ = some (.int .i64 m.sl) ∧ W'.cell? ⟨W2.heap.size + 1, j * 9 + 6, none⟩ = some (.int .i64 m.nu) ∧ W'.cell? ⟨W2.heap.size + 1, j * 9 + 7, none⟩ = some (.string (sOf m.v)) ∧ W'.cell? ⟨W2.heap.size + 1, j * 9 + 8, none⟩ = some (.slice A m.l.length c))) (by kernel_rfl) ?_ (fun hH => ?_)
    · exact hSv.out _ hBy.out w3.out
    refine wpAnyH_take (i := 0) (v := ?_) rfl (by kernel_rfl) (by kernel_rfl) (by kernel_rfl) (fun _ _ _ h => h) (Or.inl ⟨by rfl, by intro w hSw; go_simp; first | done | with_reducible rfl⟩) hH ?_
    simp only [List.getElem_toArray, List.getElem_cons_succ, List.getElem_cons_zero, Act.put, List.setIfInBounds_toArray, List.set_cons_zero, List.set_cons_succ]
    refine wpAnyH_take (i := 1) (v := ?_) rfl (by kernel_rfl) (by kernel_rfl) (by kernel_rfl) (fun _ _ _ h => h) (Or.inl ⟨by rfl, by intro w hSw; go_simp; first | done | with_reducible rfl⟩) hH ?_
    simp only [List.getElem_toArray, List.getElem_cons_succ, List.getElem_cons_zero, Act.put, List.setIfInBounds_toArray, List.set_cons_zero, List.set_cons_succ]
    refine wpAnyH_take (i := 2) (v := ?_) rfl (by kernel_rfl) (by kernel_rfl) (by kernel_rfl) (fun _ _ _ h => h) (Or.inl ⟨by rfl, by intro w hSw; go_simp; first | done | with_reducible rfl⟩) hH ?_
    simp only [List.getElem_toArray, List.getElem_cons_succ, List.getElem_cons_zero, Act.put, List.setIfInBounds_toArray, List.set_cons_zero, List.set_cons_succ]
    refine wpAnyH_take (i := 3) (v := ?_) rfl (by kernel_rfl) (by kernel_rfl) (by kernel_rfl) (fun _ _ _ h => h) (Or.inl ⟨by rfl, by intro w hSw; go_simp; first | done | with_reducible rfl⟩) hH ?_
    simp only [List.getElem_toArray, List.getElem_cons_succ, List.getElem_cons_zero, Act.put, List.setIfInBounds_toArray, List.set_cons_zero, List.set_cons_succ]
    refine wpAnyH_take (i := 4) (v := ?_) rfl (by kernel_rfl) (by kernel_rfl) (by kernel_rfl) (fun _ _ _ h => h) (Or.inl ⟨by rfl, by intro w hSw; go_simp; first | done | with_reducible rfl⟩) hH ?_
    simp only [List.getElem_toArray, List.getElem_cons_succ, List.getElem_cons_zero, Act.put, List.setIfInBounds_toArray, List.set_cons_zero, List.set_cons_succ]
    refine wpAnyH_take (i := 5) (v := ?_) rfl (by kernel_rfl) (by kernel_rfl) (by kernel_rfl) (fun _ _ _ h => h) (Or.inl ⟨by rfl, by intro w hSw; go_simp; first | done | with_reducible rfl⟩) hH ?_
    simp only [List.getElem_toArray, List.getElem_cons_succ, List.getElem_cons_zero, Act.put, List.setIfInBounds_toArray, List.set_cons_zero, List.set_cons_succ]
    refine wpAnyH_take (i := 6) (v := ?_) rfl (by kernel_rfl) (by kernel_rfl) (by kernel_rfl) (fun _ _ _ h => h) (Or.inl ⟨by rfl, by intro w hSw; go_simp; first | done | with_reducible rfl⟩) hH ?_
    simp only [List.getElem_toArray, List.getElem_cons_succ, List.getElem_cons_zero, Act.put, List.setIfInBounds_toArray, List.set_cons_zero, List.set_cons_succ]
    refine wpAnyH_take (i := 7) (v := ?_) rfl (by kernel_rfl) (by kernel_rfl) (by kernel_rfl) (fun _ _ _ h => h) (Or.inl ⟨by rfl, by intro w hSw; obtain ⟨s0, s1, s2, s3, s4, s5, s6, s7, s8, s9, s10, s11, s12, s13, s14, s15, s16, s17⟩ := hSw; go_simp; first | done | with_reducible rfl⟩) hH ?_
    simp only [List.getElem_toArray, List.getElem_cons_succ, List.getElem_cons_zero, Act.put, List.setIfInBounds_toArray, List.set_cons_zero, List.set_cons_succ]
    refine wpAnyH_take (i := 8) (v := ?_) rfl (by kernel_rfl) (by kernel_rfl) (by kernel_rfl) (fun _ _ _ h => h) (Or.inl ⟨by rfl, by intro w hSw; go_simp; first | done | with_reducible rfl⟩) hH ?_
    simp only [List.getElem_toArray, List.getElem_cons_succ, List.getElem_cons_zero, Act.put, List.setIfInBounds_toArray, List.set_cons_zero, List.set_cons_succ]
    refine wpAnyH_take (i := 9) (v := ?_) rfl (by kernel_rfl) (by kernel_rfl) (by kernel_rfl) (fun _ _ _ h => h) (Or.inl ⟨by rfl, by intro w hSw; go_simp; first | done | with_reducible rfl⟩) hH ?_
    simp only [List.getElem_toArray, List.getElem_cons_succ, List.getElem_cons_zero, Act.put, List.setIfInBounds_toArray, List.set_cons_zero, List.set_cons_succ]
    refine wpAnyH_take (i := 10) (v := ?_) rfl (by kernel_rfl) (by kernel_rfl) (by kernel_rfl) (fun _ _ _ h => h) (Or.inl ⟨by rfl, by intro w hSw; go_simp; first | done | with_reducible rfl⟩) hH ?_
    simp only [List.getElem_toArray, List.getElem_cons_succ, List.getElem_cons_zero, Act.put, List.setIfInBounds_toArray, List.set_cons_zero, List.set_cons_succ]
    refine wpAnyH_take (i := 11) (v := ?_) rfl (by kernel_rfl) (by kernel_rfl) (by kernel_rfl) (fun _ _ _ h => h) (Or.inl ⟨by rfl, by intro w hSw; obtain ⟨s0, s1, s2, s3, s4, s5, s6, s7, s8, s9, s10, s11, s12, s13, s14, s15, s16, s17⟩ := hSw; go_simp; first | done | with_reducible rfl⟩) hH ?_
    simp only [List.getElem_toArray, List.getElem_cons_succ, List.getElem_cons_zero, Act.put, List.setIfInBounds_toArray, List.set_cons_zero, List.set_cons_succ]
    refine wpAnyH_ready (rs := [12]) (by kernel_rfl) (by simp) ?_
    refine AllReadyH.cons rfl (fun K hK => ?_) ?_
    · clear hH
      go_simp
      refine (hE.out _ he3.out (SL.keep hes.out w3.out)).mono ?_
      rintro e V12 ⟨rfl, bV⟩
      have k4 := Lib.hid (k3.out.trans (bV.mono k3.out.size))
      have w4 := Lib.hid (w3.out.trans (bV.mono w3.out.size))
      have he4 := Lib.hid (SL.keep he3.out bV)
      have hBy4 := Lib.hid ((bV.block _ (blkX hBy.out)).trans hBy.out)
      clear k3 w3 he3 hBy; have k3 := k4; have w3 := w4; have he3 := he4; have hBy := hBy4; clear k4 w4 he4 hBy4
      clear bV
      refine hK.out _ _ (hSv.out _ hBy.out w3.out) (fun hH => ?_)
      clear hK K
      refine wpAnyH_take (i := 13) (v := ?_) rfl (by kernel_rfl) (by kernel_rfl) (by kernel_rfl) (fun _ _ _ h => h) (Or.inl ⟨by rfl, by intro w hSw; go_simp; first | done | with_reducible rfl⟩) hH ?_
      simp only [List.getElem_toArray, List.getElem_cons_succ, List.getElem_cons_zero, Act.put, List.setIfInBounds_toArray, List.set_cons_zero, List.set_cons_succ]
      refine wpAnyH_take (i := 14) (v := ?_) rfl (by kernel_rfl) (by kernel_rfl) (by kernel_rfl) (fun _ _ _ h => h) (Or.inl ⟨by rfl, by intro w hSw; go_simp; first | done | with_reducible rfl⟩) hH ?_
      simp only [List.getElem_toArray, List.getElem_cons_succ, List.getElem_cons_zero, Act.put, List.setIfInBounds_toArray, List.set_cons_zero, List.set_cons_succ]
      refine wpAnyH_take (i := 15) (v := ?_) rfl (by kernel_rfl) (by kernel_rfl) (by kernel_rfl) (fun _ _ _ h => h) (Or.inl ⟨by rfl, by intro w hSw; go_simp; first | done | with_reducible rfl⟩) hH ?_
      simp only [List.getElem_toArray, List.getElem_cons_succ, List.getElem_cons_zero, Act.put, List.setIfInBounds_toArray, List.set_cons_zero, List.set_cons_succ]
      refine wpAnyH_take (i := 16) (v := ?_) rfl (by kernel_rfl) (by kernel_rfl) (by kernel_rfl) (fun _ _ _ h => h) (Or.inl ⟨by rfl, by intro w hSw; go_simp; first | done | with_reducible rfl⟩) hH ?_
      simp only [List.getElem_toArray, List.getElem_cons_succ, List.getElem_cons_zero, Act.put, List.setIfInBounds_toArray, List.set_cons_zero, List.set_cons_succ]
      refine wpAnyH_take (i := 17) (v := ?_) rfl (by kernel_rfl) (by kernel_rfl) (by kernel_rfl) (fun _ _ _ h => h) (Or.inl ⟨by rfl, by intro w hSw; go_simp; first | done | with_reducible rfl⟩) hH ?_
      simp only [List.getElem_toArray, List.getElem_cons_succ, List.getElem_cons_zero, Act.put, List.setIfInBounds_toArray, List.set_cons_zero, List.set_cons_succ]
      refine wpAnyH_take (i := 18) (v := ?_) rfl (by kernel_rfl) (by kernel_rfl) (by kernel_rfl) (fun _ _ _ h => h) (Or.inl ⟨by rfl, by intro w hSw; go_simp; first | done | with_reducible rfl⟩) hH ?_
      simp only [List.getElem_toArray, List.getElem_cons_succ, List.getElem_cons_zero, Act.put, List.setIfInBounds_toArray, List.set_cons_zero, List.set_cons_succ]
      refine wpAnyH_take (i := 19) (v := ?_) rfl (by kernel_rfl) (by kernel_rfl) (by kernel_rfl) (fun _ _ _ h => h) (Or.inl ⟨by rfl, by intro w hSw; go_simp; first | done | with_reducible rfl⟩) hH ?_
      simp only [List.getElem_toArray, List.getElem_cons_succ, List.getElem_cons_zero, Act.put, List.setIfInBounds_toArray, List.set_cons_zero, List.set_cons_succ]
      refine wpAnyH_take (i := 20) (v := ?_) rfl (by kernel_rfl) (by kernel_rfl) (by kernel_rfl) (fun _ _ _ h => h) (Or.inl ⟨by rfl, by intro w hSw; obtain ⟨s0, s1, s2, s3, s4, s5, s6, s7, s8, s9, s10, s11, s12, s13, s14, s15, s16, s17⟩ := hSw; go_simp; first | done | with_reducible rfl⟩) hH ?_
      simp only [List.getElem_toArray, List.getElem_cons_succ, List.getElem_cons_zero, Act.put, List.setIfInBounds_toArray, List.set_cons_zero, List.set_cons_succ]
      refine wpAnyH_take (i := 22) (v := ?_) rfl (by kernel_rfl) (by kernel_rfl) (by kernel_rfl) (fun _ _ _ h => h) (Or.inl ⟨by rfl, by intro w hSw; go_simp; first | done | with_reducible rfl⟩) hH ?_
      simp only [List.getElem_toArray, List.getElem_cons_succ, List.getElem_cons_zero, Act.put, List.setIfInBounds_toArray, List.set_cons_zero, List.set_cons_succ]
      refine wpAnyH_take (i := 23) (v := ?_) rfl (by kernel_rfl) (by kernel_rfl) (by kernel_rfl) (fun _ _ _ h => h) (Or.inl ⟨by rfl, by intro w hSw; go_simp; first | done | with_reducible rfl⟩) hH ?_
      simp only [List.getElem_toArray, List.getElem_cons_succ, List.getElem_cons_zero, Act.put, List.setIfInBounds_toArray, List.set_cons_zero, List.set_cons_succ]
      refine wpAnyH_ready (rs := [21]) (by kernel_rfl) (by simp) ?_
      refine AllReadyH.cons rfl (fun K hK => ?_) ?_
      · go_simp
        refine (hP.out _).mono ?_
        rintro e V21 ⟨rfl, rfl⟩
        refine hK.out _ _ (hSv.out _ hBy.out w3.out) (fun hH => ?_)
        clear hK K
        refine wpAnyH_take (i := 24) (v := ?_) rfl (by kernel_rfl) (by kernel_rfl) (by kernel_rfl) (fun _ _ _ h => h) (Or.inl ⟨by rfl, by intro w hSw; go_simp; first | done | with_reducible rfl⟩) hH ?_
        simp only [List.getElem_toArray, List.getElem_cons_succ, List.getElem_cons_zero, Act.put, List.setIfInBounds_toArray, List.set_cons_zero, List.set_cons_succ]
        refine wpAnyH_take (i := 25) (v := ?_) rfl (by kernel_rfl) (by kernel_rfl) (by kernel_rfl) (fun _ _ _ h => h) (Or.inl ⟨by rfl, by intro w hSw; go_simp; first | done | with_reducible rfl⟩) hH ?_
        simp only [List.getElem_toArray, List.getElem_cons_succ, List.getElem_cons_zero, Act.put, List.setIfInBounds_toArray, List.set_cons_zero, List.set_cons_succ]
        refine wpAnyH_done (by kernel_rfl) ?_ _
        clear hH hSv hE hP
        by_cases h9 : j < 9
        · have h9' : (j : Int) < 9 := by omega
          go_wp2_with (fail)
          · rename_i hc; exfalso; revert hc; rw [decide_eq_true h9, decide_eq_true h9']; decide
          · exact ⟨⟨j + 1, by omega, by go_num, w3.out⟩, by simp [intOf]; omega⟩
        · have h9' : ¬ (j : Int) < 9 := by omega
          go_wp2_with (fail)
          · rename_i hc; exfalso; revert hc; rw [decide_eq_false (show ¬ j < 9 by omega), decide_eq_false (show ¬ (j : Int) < 9 by omega)]; decide
          · exact ⟨⟨j + 1, by omega, by go_num, w3.out⟩, by simp [intOf]; omega⟩
      exact AllReadyH.nil
    exact AllReadyH.nil
  · obtain rfl : j = 11 := by omega
    have hBb2 := Lib.hid ((hbw.block _ (blkX hBb.out)).trans hBb.out)
    clear kx hBb hall hq1 hq2 lR hbw; have kx := kV; have hBb := hBb2; clear kV hBb2
    have b0 : V.cell? ⟨w.heap.size, 0, none⟩ = some (.int .i64 2) := blkC hBb.out 0
    have b1 : V.cell? ⟨w.heap.size, 1, none⟩ = some (.int .i64 1) := blkC hBb.out 1
    have lb := blkX hBb.out
    obtain ⟨G1, hG1⟩ : ∃ G, G = ((V.alloc (.cells #[.int .i64 1, .int .i64 2, .int .i64 1, .string ⟨#[]⟩, .int .i64 1, .int .i64 2, .int .i64 1, .string ⟨#[]⟩] 45)).alloc (.cells #[.int .i64 0, .int .i64 0, .int .i64 0, .string ⟨#[]⟩] 45)).alloc (.cells (badC V.heap.size) 28) := ⟨_, rfl⟩
    have bb : Below V.heap.size V G1 := by rw [hG1]; exact (((Below.refl _ V).alloc (Nat.le_refl _) _).alloc (by simp) _).alloc (by simp <;> omega) _
    have hq1 := Lib.hid (show G1.heap[V.heap.size]? = some (.cells #[.int .i64 1, .int .i64 2, .int .i64 1, .string ⟨#[]⟩, .int .i64 1, .int .i64 2, .int .i64 1, .string ⟨#[]⟩] 45 (0, 0)) from by rw [hG1]; exact (hpOld _ (by simp <;> omega)).trans ((hpOld _ (by simp)).trans (hpNew _ _)))
    have hq3 := Lib.hid (show G1.heap[V.heap.size + 1]? = some (.cells #[.int .i64 0, .int .i64 0, .int .i64 0, .string ⟨#[]⟩] 45 (0, 0)) from by rw [hG1]; exact (hpOld _ (by simp <;> omega)).trans (hpNewAt _ (by simp)))
    have hq2 := Lib.hid (show G1.heap[V.heap.size + 1 + 1]? = some (.cells (badC V.heap.size) 28 (0, 0)) from by rw [hG1]; exact hpNewAt _ (by simp))
    have hall := Lib.hid (fun j (hj : j < 14) => bad_at hq2.out hq1.out hq3.out hj)
    unfold badC at hG1
    go_wp2_with (fail)
    rw [← hG1]
    replace hG1 := Lib.hid hG1
    have kx41 := Lib.hid (kx.out.trans (bb.mono kx.out.size))
    have hBb_41 := Lib.hid ((bb.block _ (blkX hBb.out)).trans hBb.out)
    clear b0 b1 lb 
    clear bb kx hBb; have kx := kx41; have hBb := hBb_41; clear kx41 hBb_41
    have lR := Lib.hid (blkX hq2.out)
    go_loopw [13] (fun i wr => ∃ j : Nat, j ≤ 14 ∧ i = .int .i64 j ∧ Below G1.heap.size G1 wr) (fun i _ => 14 - (intOf i).toNat)
    case atStart => exact ⟨0, by omega, rfl, Below.refl _ _⟩
    case round =>
      revert wr
      intro Y hrel
      obtain ⟨j, hj, rfl, hbw⟩ := hrel
      have kV := Lib.hid (kx.out.trans (hbw.mono kx.out.size))
      by_cases hlt : j < 14
      · obtain ⟨m, A, c, henc, hml, hes, c0, c1, c2, c3, c4, c5, c6, c7, c8⟩ := hall.out j hlt
        replace c0 := Lib.hid c0
        replace c1 := Lib.hid c1
        replace c2 := Lib.hid c2
        replace c3 := Lib.hid c3
        replace c4 := Lib.hid c4
        replace c5 := Lib.hid c5
        replace c6 := Lib.hid c6
        replace c7 := Lib.hid c7
        replace c8 := Lib.hid c8
        have d0 : Y.cell? ⟨V.heap.size + 1 + 1, j * 9, none⟩ = some (.int .i64 m.k) := (hbw.cell (p := ⟨V.heap.size + 1 + 1, j * 9, none⟩) lR.out).trans c0.out
        have d1 : Y.cell? ⟨V.heap.size + 1 + 1, j * 9 + 1, none⟩ = some (.int .i64 m.fr) := (hbw.cell (p := ⟨V.heap.size + 1 + 1, j * 9 + 1, none⟩) lR.out).trans c1.out
        have d2 : Y.cell? ⟨V.heap.size + 1 + 1, j * 9 + 2, none⟩ = some (.int .i64 m.tt) := (hbw.cell (p := ⟨V.heap.size + 1 + 1, j * 9 + 2, none⟩) lR.out).trans c2.out
        have d3 : Y.cell? ⟨V.heap.size + 1 + 1, j * 9 + 3, none⟩ = some (.int .i64 m.ro) := (hbw.cell (p := ⟨V.heap.size + 1 + 1, j * 9 + 3, none⟩) lR.out).trans c3.out
        have d4 : Y.cell? ⟨V.heap.size + 1 + 1, j * 9 + 4, none⟩ = some (.int .i64 m.no) := (hbw.cell (p := ⟨V.heap.size + 1 + 1, j * 9 + 4, none⟩) lR.out).trans c4.out
        have d5 : Y.cell? ⟨V.heap.size + 1 + 1, j * 9 + 5, none⟩ = some (.int .i64 m.sl) := (hbw.cell (p := ⟨V.heap.size + 1 + 1, j * 9 + 5, none⟩) lR.out).trans c5.out
        have d6 : Y.cell? ⟨V.heap.size + 1 + 1, j * 9 + 6, none⟩ = some (.int .i64 m.nu) := (hbw.cell (p := ⟨V.heap.size + 1 + 1, j * 9 + 6, none⟩) lR.out).trans c6.out
        have d7 : Y.cell? ⟨V.heap.size + 1 + 1, j * 9 + 7, none⟩ = some (.string (sOf m.v)) := (hbw.cell (p := ⟨V.heap.size + 1 + 1, j * 9 + 7, none⟩) lR.out).trans c7.out
        have d8 : Y.cell? ⟨V.heap.size + 1 + 1, j * 9 + 8, none⟩ = some (.slice A m.l.length c) := (hbw.cell (p := ⟨V.heap.size + 1 + 1, j * 9 + 8, none⟩) lR.out).trans c8.out
        have hck := check_m m A c Y (hL.out.keep kV.out) (SL.keep hes hbw) (by omega)
        rewrite [henc] at hck
        obtain ⟨nm, hnm⟩ : ∃ n, m.l.length = n := ⟨_, rfl⟩
        have j0 : (0 : Int) ≤ (j : Int) := by omega
        have j1 : (j : Int) < 14 := by omega
        replace hnm := Lib.hid hnm; replace henc := Lib.hid henc; replace hes := Lib.hid hes; replace hbw := Lib.hid hbw
        go_wp2_with (fail)
        refine hck.mono ?_
        rintro e V1 ⟨rfl, b1⟩
        clear hck d0 d1 d2 d3 d4 d5 d6 d7 d8
        have w1 := Lib.hid (hbw.out.trans (b1.mono hbw.out.size))
        clear b1
        go_wp2_with (fail)
        exact ⟨⟨j + 1, by omega, by go_num, w1.out⟩, by simp [intOf]; omega⟩
      · obtain rfl : j = 14 := by omega
        have hBb2 := Lib.hid ((hbw.block _ (blkX hBb.out)).trans hBb.out)
        clear kx hBb hall hq1 hq2 hq3 lR hbw; have kx := kV; have hBb := hBb2; clear kV hBb2
        have b0 : Y.cell? ⟨w.heap.size, 0, none⟩ = some (.int .i64 2) := blkC hBb.out 0
        have b1 : Y.cell? ⟨w.heap.size, 1, none⟩ = some (.int .i64 1) := blkC hBb.out 1
        have lb := blkX hBb.out
        obtain ⟨Z, hmk, hzr, bz⟩ := mk_zeros Y 65537 (by omega)
        obtain ⟨vl, hvl⟩ : ∃ l, l = List.replicate 65537 (0 : UInt8) := ⟨_, rfl⟩
        rw [← hvl] at hzr
        have hst := fun c => hzr.str c
        have hvn : vl.length = 65537 := by rw [hvl]; exact List.length_replicate
        replace hmk : (Instr.makeSlice 22 (.int .i64 65537) (.int .i64 65537)).run Tryz.prog Y = .ok (.slice (some ⟨Y.heap.size, 0, none⟩) 65537 65537) Z := hmk
        have kZ := Lib.hid (kx.out.trans (bz.mono kx.out.size))
        have hBb2 := Lib.hid ((bz.block _ (blkX hBb.out)).trans hBb.out)
        replace hst : ∀ c, (convert 22 9 (.slice (some ⟨Y.heap.size, 0, none⟩) 65537 c)).run Tryz.prog Z = .ok (.string (sOf vl)) Z := hst
        obtain ⟨vm, hvm⟩ : ∃ l, l = vl.drop 1 := ⟨_, rfl⟩
        have hsl : ∀ W, (Instr.slice 9 (.string (sOf vl)) (some (.int .i64 1)) none none).run Tryz.prog W = .ok (.string (sOf vm)) W := fun W => by rw [hvm]; exact long_sl vl 65537 hvn (by omega) W
        have hmn : vm.length = 65536 := by rw [hvm, List.length_drop, hvn]
        clear hvm
        replace hvl := Lib.hid hvl; replace hvn := Lib.hid hvn; replace hmn := Lib.hid hmn; replace hzr := Lib.hid hzr; replace bz := Lib.hid bz
        go_wp2_with (fail)
        clear b0 b1 lb hst hmk hzr bz hvl
        clear kx hBb; have kx := kZ; have hBb := hBb2; clear kZ hBb2
        go_loopw [15, 16] (fun q i wr => ∃ (k : Nat) (A1 : Option Addr) (q1 : Nat), k ≤ 16 ∧ q = .slice A1 k q1 ∧ i = .int .i64 k ∧ Below w.heap.size w wr ∧ wr.heap[w.heap.size]? = some (.cells #[.int .i64 2, .int .i64 1] 25 (0, 0)) ∧ wr.ownsRow w.heap.size 45 4 (.slice A1 k q1) k (flat encEnt (mkE vm 0 k))) (fun _ i _ => 16 - (intOf i).toNat)
        case atStart => exact ⟨0, none, 0, by omega, rfl, rfl, kx.out, hBb.out, World.ownsRow_nil _ _ _ _⟩
        case round =>
          clear kx hBb
          revert wr
          intro X hrel
          obtain ⟨k, A1, q1, hk, rfl, rfl, kx, hBb, hO⟩ := hrel
          by_cases hlt : k < 16
          · have j0 : (0 : Int) ≤ k := by omega
            have j1 : (k : Int) < 16 := by omega
            have b0 : X.cell? ⟨w.heap.size, 0, none⟩ = some (.int .i64 2) := blkC hBb 0
            have b1 : X.cell? ⟨w.heap.size, 1, none⟩ = some (.int .i64 1) := blkC hBb 1
            replace kx := Lib.hid kx; replace hBb := Lib.hid hBb; replace hO := Lib.hid hO
            go_wp2_with (fail)
            have hSv : ∀ W' : World, W'.heap[w.heap.size]? = some (.cells #[.int .i64 2, .int .i64 1] 25 (0, 0)) → Below w.heap.size w W' → (fun W' : World => W'.cell? ⟨w.heap.size, 0, none⟩ = some (.int .i64 2) ∧ W'.cell? ⟨w.heap.size, 1, none⟩ = some (.int .i64 1)) W' := by
              intro W' h1 h2
              exact ⟨blkC h1 0, blkC h1 1⟩
            replace hSv := Lib.hid hSv
            clear b0 b1
            have bD : Below X.heap.size X X.drew := (Below.refl _ X).drew
            have kx2 := Lib.hid (kx.out.trans (bD.mono kx.out.size))
            have hO2 := Lib.hid (own_keep2 hO.out bD)
            have hBb2 := Lib.hid ((bD.block _ (blkX hBb.out)).trans hBb.out)
            clear kx hBb hO; have kx := kx2; have hBb := hBb2; have hO := hO2; clear kx2 hBb2 hO2
            clear bD
            obtain ⟨V0, hV0⟩ : ∃ V0, V0 = X.drew := ⟨_, rfl⟩
            rw [← hV0] at kx hO hBb
            replace hV0 := Lib.hid hV0
            refine wp_region_held_drew (S := (fun W' : World => W'.cell? ⟨w.heap.size, 0, none⟩ = some (.int .i64 2) ∧ W'.cell? ⟨w.heap.size, 1, none⟩ = some (.int .i64 1))) (by kernel_rfl) ?_ (fun hH => ?_)
            · rw [← hV0.out]
              exact hSv.out _ hBb.out kx.out
            refine wpAnyH_take (i := 0) (v := ?_) rfl (by kernel_rfl) (by kernel_rfl) (by kernel_rfl) (fun _ _ _ h => h) (Or.inl ⟨by rfl, by intro w hSw; go_simp; first | done | with_reducible rfl⟩) hH ?_
            simp only [List.getElem_toArray, List.getElem_cons_succ, List.getElem_cons_zero, Act.put, List.setIfInBounds_toArray, List.set_cons_zero, List.set_cons_succ]
            refine wpAnyH_take (i := 1) (v := ?_) rfl (by kernel_rfl) (by kernel_rfl) (by kernel_rfl) (fun _ _ _ h => h) (Or.inl ⟨by rfl, by intro w hSw; go_simp; first | done | with_reducible rfl⟩) hH ?_
            simp only [List.getElem_toArray, List.getElem_cons_succ, List.getElem_cons_zero, Act.put, List.setIfInBounds_toArray, List.set_cons_zero, List.set_cons_succ]
            refine wpAnyH_take (i := 2) (v := ?_) rfl (by kernel_rfl) (by kernel_rfl) (by kernel_rfl) (fun _ _ _ h => h) (Or.inl ⟨by rfl, by intro w hSw; obtain ⟨s0, s1⟩ := hSw; go_simp; first | done | with_reducible rfl⟩) hH ?_
            simp only [List.getElem_toArray, List.getElem_cons_succ, List.getElem_cons_zero, Act.put, List.setIfInBounds_toArray, List.set_cons_zero, List.set_cons_succ]
            refine wpAnyH_take (i := 3) (v := ?_) rfl (by kernel_rfl) (by kernel_rfl) (by kernel_rfl) (fun _ _ _ h => h) (Or.inl ⟨by rfl, by intro w hSw; go_simp; first | done | with_reducible rfl⟩) hH ?_
            simp only [List.getElem_toArray, List.getElem_cons_succ, List.getElem_cons_zero, Act.put, List.setIfInBounds_toArray, List.set_cons_zero, List.set_cons_succ]
            refine wpAnyH_take (i := 4) (v := ?_) rfl (by kernel_rfl) (by kernel_rfl) (by kernel_rfl) (fun _ _ _ h => h) (Or.inl ⟨by rfl, by intro w hSw; go_simp; first | done | with_reducible rfl⟩) hH ?_
            simp only [List.getElem_toArray, List.getElem_cons_succ, List.getElem_cons_zero, Act.put, List.setIfInBounds_toArray, List.set_cons_zero, List.set_cons_succ]
            refine wpAnyH_take (i := 5) (v := ?_) rfl (by kernel_rfl) (by kernel_rfl) (by kernel_rfl) (fun _ _ _ h => h) (Or.inl ⟨by rfl, by intro w hSw; go_simp; first | done | with_reducible rfl⟩) hH ?_
            simp only [List.getElem_toArray, List.getElem_cons_succ, List.getElem_cons_zero, Act.put, List.setIfInBounds_toArray, List.set_cons_zero, List.set_cons_succ]
            refine wpAnyH_ready (rs := [6]) (by kernel_rfl) (by simp) ?_
            refine AllReadyH.cons rfl (fun K hK => ?_) ?_
            · clear hH
              have bb := (Below.refl _ V0).alloc (Nat.le_refl _) (.cells #[.int .i64 k, .int .i64 2, .int .i64 1, .string (sOf vm)] 45)
              have hN := ent_one V0 k 2 1 vm
              have kx2 := Lib.hid (kx.out.trans (bb.mono kx.out.size))
              have hO2 := Lib.hid (own_keep2 hO.out bb)
              have hBb2 := Lib.hid ((bb.block _ (blkX hBb.out)).trans hBb.out)
              clear kx hBb hO; have kx := kx2; have hBb := hBb2; have hO := hO2; clear kx2 hBb2 hO2
              clear bb
              try rw [← hV0.out]
              go_simp
              generalize hVV : V0.alloc (.cells #[.int .i64 k, .int .i64 2, .int .i64 1, .string (sOf vm)] 45) = V1 at *
              replace hN := Lib.hid hN; replace hVV := Lib.hid hVV
              refine hK.out _ _ (hSv.out _ hBb.out kx.out) (fun hH => ?_)
              clear hK K
              refine wpAnyH_ready (rs := [7]) (by kernel_rfl) (by simp) ?_
              refine AllReadyH.cons rfl (fun K hK => ?_) ?_
              · clear hH
                obtain ⟨A', c', V2, hrun, hcap, hown, hgr, hat⟩ := append_sl elemEnt encEnt_len encEnt_one (ty := 26) (d := 1) hO.out kx.out.size hN.out (by omega) (by omega)
                rw [show mkE vm 0 k ++ [⟨(k : Int), 2, 1, vm⟩] = mkE vm 0 (k + 1) from by rw [mkE_snoc, Nat.zero_add]] at hown
                have hBb2 := (hgr.block _ (blkX hBb.out) (fun e => own_ty hO.out hBb.out (show 25 ≠ 45 from by decide) _ e.symm rfl)).trans hBb.out
                have kx2 := kx.out.grown hgr kx.out.size (fun k e => (own_row hO.out k e).1)
                clear kx hO hBb; have kx := Lib.hid kx2; have hO := Lib.hid hown; have hBb := Lib.hid hBb2; clear kx2 hown hBb2 hgr hat hcap hN
                go_simp
                refine hK.out _ _ (hSv.out _ hBb.out kx.out) (fun hH => ?_)
                clear hK K
                refine wpAnyH_take (i := 8) (v := ?_) rfl (by kernel_rfl) (by kernel_rfl) (by kernel_rfl) (fun _ _ _ h => h) (Or.inl ⟨by rfl, by intro w hSw; go_simp; first | done | with_reducible rfl⟩) hH ?_
                simp only [List.getElem_toArray, List.getElem_cons_succ, List.getElem_cons_zero, Act.put, List.setIfInBounds_toArray, List.set_cons_zero, List.set_cons_succ]
                refine wpAnyH_done (by kernel_rfl) ?_ _
                clear hH hSv
                go_wp2_with (fail)
                refine ⟨⟨_, _, _, _, _, _, _, _, _, _, _, _, _, _, ?_, rfl⟩, by simp [intOf]; omega⟩
                exact ⟨k + 1, A', c', by omega, rfl, by go_num, kx.out, hBb.out, hO.out⟩
              exact AllReadyH.nil
            exact AllReadyH.nil
          · obtain rfl : k = 16 := by omega
            have hES := SL.of_own encEnt_len hO (mkE_len vm 16 0)
            have hc16 : 16 ≤ q1 := by
              obtain ⟨A', c', e, hc⟩ := own_shape hO
              injection e with _ _ e
              omega
            replace kx := Lib.hid kx; replace hBb := Lib.hid hBb; replace hO := Lib.hid hO; replace hES := Lib.hid hES; replace hc16 := Lib.hid hc16
            have b0 : X.cell? ⟨w.heap.size, 0, none⟩ = some (.int .i64 2) := blkC hBb.out 0
            have b1 : X.cell? ⟨w.heap.size, 1, none⟩ = some (.int .i64 1) := blkC hBb.out 1
            have lb := blkX hBb.out
            go_wp2_with (fail)
            refine (vlong_call vl hvn.out _ (hL.out.keep kx.out)).mono ?_
            rintro e W71 ⟨z1, rfl, b1⟩
            have kx71 := Lib.hid (kx.out.trans (b1.mono kx.out.size))
            have hBb_71 := Lib.hid ((b1.block _ (blkX hBb.out)).trans hBb.out)
            have hES2 := Lib.hid (SL.keep hES.out b1)
            clear hES; have hES := hES2; clear hES2
            clear b0 b1 lb 
            clear b1 kx; have kx := kx71; clear kx71
            clear hBb; have hBb := hBb_71; clear hBb_71
            have b0 : W71.cell? ⟨w.heap.size, 0, none⟩ = some (.int .i64 2) := blkC hBb.out 0
            have b1 : W71.cell? ⟨w.heap.size, 1, none⟩ = some (.int .i64 1) := blkC hBb.out 1
            have lb := blkX hBb.out
            go_wp2_with (fail)
            refine (varg_call vl _ (hL.out.keep kx.out)).mono ?_
            rintro e W72 ⟨z2, rfl, b1⟩
            have kx72 := Lib.hid (kx.out.trans (b1.mono kx.out.size))
            have hBb_72 := Lib.hid ((b1.block _ (blkX hBb.out)).trans hBb.out)
            have hES2 := Lib.hid (SL.keep hES.out b1)
            clear hES; have hES := hES2; clear hES2
            clear b0 b1 lb 
            clear b1 kx; have kx := kx72; clear kx72
            clear hBb; have hBb := hBb_72; clear hBb_72
            have b0 : W72.cell? ⟨w.heap.size, 0, none⟩ = some (.int .i64 2) := blkC hBb.out 0
            have b1 : W72.cell? ⟨w.heap.size, 1, none⟩ = some (.int .i64 1) := blkC hBb.out 1
            have lb := blkX hBb.out
            obtain ⟨X15, hX, hE15⟩ := SL.low (m := 15) (c := q1) hES.out (by omega) (by have := hc16.out; omega)
            rw [mkE_take vm 15 16 0 (by omega)] at hE15
            have y0 : (15 : Int) ≤ (q1 : Int) := by have := hc16.out; omega
            have y1 : 15 ≤ q1 := by have := hc16.out; omega
            replace hE15 := Lib.hid hE15
            go_wp2_with (fail)
            have hSv : ∀ W' : World, W'.heap[w.heap.size]? = some (.cells #[.int .i64 2, .int .i64 1] 25 (0, 0)) → Below w.heap.size w W' → (fun W' : World => W'.cell? ⟨w.heap.size, 0, none⟩ = some (.int .i64 2) ∧ W'.cell? ⟨w.heap.size, 1, none⟩ = some (.int .i64 1)) W' := by
              intro W' h1 h2
              exact ⟨blkC h1 0, blkC h1 1⟩
            replace hSv := Lib.hid hSv
            clear b0 b1 lb
            have bD : Below W72.heap.size W72 W72.drew := (Below.refl _ _).drew
            have kx2 := Lib.hid (kx.out.trans (bD.mono kx.out.size))
            have hBb2 := Lib.hid ((bD.block _ (blkX hBb.out)).trans hBb.out)
            have hES2 := Lib.hid (SL.keep hES.out bD)
            have hE152 := Lib.hid (SL.keep hE15.out bD)
            clear kx hBb hES hE15; have kx := kx2; have hBb := hBb2; have hES := hES2; have hE15 := hE152; clear kx2 hBb2 hES2 hE152
            clear bD
            obtain ⟨V0, hV0⟩ : ∃ V0, V0 = W72.drew := ⟨_, rfl⟩
            rw [← hV0] at kx hBb hES hE15
            replace hV0 := Lib.hid hV0
            refine wp_region_held_drew (S := (fun W' : World => W'.cell? ⟨w.heap.size, 0, none⟩ = some (.int .i64 2) ∧ W'.cell? ⟨w.heap.size, 1, none⟩ = some (.int .i64 1))) (by kernel_rfl) ?_ (fun hH => ?_)
            · rw [← hV0.out]
              exact hSv.out _ hBb.out kx.out
            refine wpAnyH_take (i := 0) (v := ?_) rfl (by kernel_rfl) (by kernel_rfl) (by kernel_rfl) (fun _ _ _ h => h) (Or.inl ⟨by rfl, by intro w hSw; obtain ⟨s0, s1⟩ := hSw; go_simp; first | done | with_reducible rfl⟩) hH ?_
            simp only [List.getElem_toArray, List.getElem_cons_succ, List.getElem_cons_zero, Act.put, List.setIfInBounds_toArray, List.set_cons_zero, List.set_cons_succ]
            refine wpAnyH_take (i := 1) (v := ?_) rfl (by kernel_rfl) (by kernel_rfl) (by kernel_rfl) (fun _ _ _ h => h) (Or.inl ⟨by rfl, by intro w hSw; go_simp; first | done | with_reducible rfl⟩) hH ?_
            simp only [List.getElem_toArray, List.getElem_cons_succ, List.getElem_cons_zero, Act.put, List.setIfInBounds_toArray, List.set_cons_zero, List.set_cons_succ]
            refine wpAnyH_take (i := 2) (v := ?_) rfl (by kernel_rfl) (by kernel_rfl) (by kernel_rfl) (fun _ _ _ h => h) (Or.inl ⟨by rfl, by intro w hSw; go_simp; first | done | with_reducible rfl⟩) hH ?_
            simp only [List.getElem_toArray, List.getElem_cons_succ, List.getElem_cons_zero, Act.put, List.setIfInBounds_toArray, List.set_cons_zero, List.set_cons_succ]
            refine wpAnyH_take (i := 3) (v := ?_) rfl (by kernel_rfl) (by kernel_rfl) (by kernel_rfl) (fun _ _ _ h => h) (Or.inl ⟨by rfl, by intro w hSw; go_simp; first | done | with_reducible rfl⟩) hH ?_
            simp only [List.getElem_toArray, List.getElem_cons_succ, List.getElem_cons_zero, Act.put, List.setIfInBounds_toArray, List.set_cons_zero, List.set_cons_succ]
            refine wpAnyH_ready (rs := [4]) (by kernel_rfl) (by simp) ?_
            refine AllReadyH.cons rfl (fun K hK => ?_) ?_
            · clear hH
              try rw [← hV0.out]
              go_simp
              refine (many_call vm 15 (by omega) _ _ _ (hL.out.keep kx.out) hE15.out 0 (many_15 hmn.out)).mono ?_
              rintro e V1 ⟨z3, rfl, b3⟩
              have kx2 := Lib.hid (kx.out.trans (b3.mono kx.out.size))
              have hBb2 := Lib.hid ((b3.block _ (blkX hBb.out)).trans hBb.out)
              have hES2 := Lib.hid (SL.keep hES.out b3)
              have hE152 := Lib.hid (SL.keep hE15.out b3)
              clear kx hBb hES hE15; have kx := kx2; have hBb := hBb2; have hES := hES2; have hE15 := hE152; clear kx2 hBb2 hES2 hE152
              clear b3
              refine hK.out _ _ (hSv.out _ hBb.out kx.out) (fun hH => ?_)
              clear hK K
              refine wpAnyH_take (i := 5) (v := ?_) rfl (by kernel_rfl) (by kernel_rfl) (by kernel_rfl) (fun _ _ _ h => h) (Or.inl ⟨by rfl, by intro w hSw; go_simp; first | done | with_reducible rfl⟩) hH ?_
              simp only [List.getElem_toArray, List.getElem_cons_succ, List.getElem_cons_zero, Act.put, List.setIfInBounds_toArray, List.set_cons_zero, List.set_cons_succ]
              refine wpAnyH_take (i := 6) (v := ?_) rfl (by kernel_rfl) (by kernel_rfl) (by kernel_rfl) (fun _ _ _ h => h) (Or.inl ⟨by rfl, by intro w hSw; go_simp; first | done | with_reducible rfl⟩) hH ?_
              simp only [List.getElem_toArray, List.getElem_cons_succ, List.getElem_cons_zero, Act.put, List.setIfInBounds_toArray, List.set_cons_zero, List.set_cons_succ]
              refine wpAnyH_take (i := 7) (v := ?_) rfl (by kernel_rfl) (by kernel_rfl) (by kernel_rfl) (fun _ _ _ h => h) (Or.inl ⟨by rfl, by intro w hSw; go_simp; first | done | with_reducible rfl⟩) hH ?_
              simp only [List.getElem_toArray, List.getElem_cons_succ, List.getElem_cons_zero, Act.put, List.setIfInBounds_toArray, List.set_cons_zero, List.set_cons_succ]
              refine wpAnyH_take (i := 8) (v := ?_) rfl (by kernel_rfl) (by kernel_rfl) (by kernel_rfl) (fun _ _ _ h => h) (Or.inl ⟨by rfl, by intro w hSw; go_simp; first | done | with_reducible rfl⟩) hH ?_
              simp only [List.getElem_toArray, List.getElem_cons_succ, List.getElem_cons_zero, Act.put, List.setIfInBounds_toArray, List.set_cons_zero, List.set_cons_succ]
              refine wpAnyH_take (i := 9) (v := ?_) rfl (by kernel_rfl) (by kernel_rfl) (by kernel_rfl) (fun _ _ _ h => h) (Or.inl ⟨by rfl, by intro w hSw; go_simp; first | done | with_reducible rfl⟩) hH ?_
              simp only [List.getElem_toArray, List.getElem_cons_succ, List.getElem_cons_zero, Act.put, List.setIfInBounds_toArray, List.set_cons_zero, List.set_cons_succ]
              refine wpAnyH_done (by kernel_rfl) ?_ _
              clear hH hSv hE15 hX
              have b0 : V1.cell? ⟨w.heap.size, 0, none⟩ = some (.int .i64 2) := blkC hBb.out 0
              have b1 : V1.cell? ⟨w.heap.size, 1, none⟩ = some (.int .i64 1) := blkC hBb.out 1
              have lb := blkX hBb.out
              go_wp2_with (fail)
              refine (many_call vm 16 (by omega) _ _ _ (hL.out.keep kx.out) hES.out 11 (many_16 hmn.out)).mono ?_
              rintro e W81 ⟨z4, rfl, b4⟩
              have kx81 := Lib.hid (kx.out.trans (b4.mono kx.out.size))
              have hBb_81 := Lib.hid ((b4.block _ (blkX hBb.out)).trans hBb.out)
              clear b0 b1 lb 
              clear b4 kx; have kx := kx81; clear kx81
              clear hBb; have hBb := hBb_81; clear hBb_81
              have b0 : W81.cell? ⟨w.heap.size, 0, none⟩ = some (.int .i64 2) := blkC hBb.out 0
              have b1 : W81.cell? ⟨w.heap.size, 1, none⟩ = some (.int .i64 1) := blkC hBb.out 1
              have lb := blkX hBb.out
              go_wp2_with (fail)
              clear b0 b1 lb hES
              have bb := (Below.refl _ W81).alloc (Nat.le_refl _) (.cells #[.int .i64 0, .int .i64 2, .int .i64 1, .string (sOf vl)] 45)
              have hN := ent_one W81 0 2 1 vl
              have kx2 := Lib.hid (kx.out.trans (bb.mono kx.out.size))
              have hBb2 := Lib.hid ((bb.block _ (blkX hBb.out)).trans hBb.out)
              clear kx hBb ; have kx := kx2; have hBb := hBb2; skip; clear kx2 hBb2 
              refine (one_call vl hvn.out _ _ _ (hL.out.keep kx.out) hN).mono ?_
              rintro e V4 ⟨z5, rfl, b5⟩
              have kx2 := Lib.hid (kx.out.trans (b5.mono kx.out.size))
              have hBb2 := Lib.hid ((b5.block _ (blkX hBb.out)).trans hBb.out)
              clear kx hBb ; have kx := kx2; have hBb := hBb2; skip; clear kx2 hBb2 
              clear bb b5 hN
              obtain ⟨Z1, hmk, hzr, bz⟩ := mk_zeros V4 1048577 (by omega)
              obtain ⟨l1, hl1⟩ : ∃ l, l = List.replicate 1048577 (0 : UInt8) := ⟨_, rfl⟩
              rw [← hl1] at hzr
              have hdd : decM l1 = (zeroMg, 11) := by rw [hl1]; exact dec_zeros_big _ (by omega)
              replace hmk : (Instr.makeSlice 22 (.int .i64 1048577) (.int .i64 1048577)).run Tryz.prog V4 = .ok (.slice (some ⟨V4.heap.size, 0, none⟩) 1048577 1048577) Z1 := hmk
              have k1 := Lib.hid (kx.out.trans (bz.mono kx.out.size))
              have hBb2 := Lib.hid ((bz.block _ (blkX hBb.out)).trans hBb.out)
              clear kx hBb; have kx := k1; have hBb := hBb2; clear k1 hBb2
              replace hl1 := Lib.hid hl1; replace hdd := Lib.hid hdd; replace hzr := Lib.hid hzr; replace bz := Lib.hid bz
              go_wp2_with (fail)
              refine (dec_e (hL.out.keep kx.out) hzr.out (by omega) 11 hdd.out).mono ?_
              rintro e Y1 ⟨B1, d1, rfl, bv⟩
              have k1 := Lib.hid (kx.out.trans (bv.mono kx.out.size))
              have hBb2 := Lib.hid ((bv.block _ (blkX hBb.out)).trans hBb.out)
              clear bv kx hBb; have kx := k1; have hBb := hBb2; clear k1 hBb2
              obtain ⟨Q1, hQ1⟩ : ∃ W', W' = Y1.alloc (.cells #[.int .i64 0, .int .i64 0, .int .i64 0, .int .i64 0, .int .i64 0, .int .i64 0, .int .i64 0, .string ⟨#[]⟩, .slice B1 0 d1] 28) := ⟨_, rfl⟩
              have bb : Below Y1.heap.size Y1 Q1 := by rw [hQ1]; exact (Below.refl _ _).alloc (Nat.le_refl _) _
              have k1 := Lib.hid (kx.out.trans (bb.mono kx.out.size))
              have hBb2 := Lib.hid ((bb.block _ (blkX hBb.out)).trans hBb.out)
              clear bb kx hBb; have kx := k1; have hBb := hBb2; clear k1 hBb2
              clear hmk hzr hdd bz
              obtain ⟨Z2, hmk, hzr, bz⟩ := mk_zeros Q1 1048576 (by omega)
              obtain ⟨l2, hl2⟩ : ∃ l, l = List.replicate 1048576 (0 : UInt8) := ⟨_, rfl⟩
              rw [← hl2] at hzr
              have hdd : decM l2 = (zeroMg, 10) := by rw [hl2]; exact dec_zeros _ (by omega) (by omega)
              replace hmk : (Instr.makeSlice 22 (.int .i64 1048576) (.int .i64 1048576)).run Tryz.prog Q1 = .ok (.slice (some ⟨Q1.heap.size, 0, none⟩) 1048576 1048576) Z2 := hmk
              rw [hQ1] at hmk hzr
              simp only [World.size_alloc] at hmk hzr
              have k2 := Lib.hid (kx.out.trans (bz.mono kx.out.size))
              have hBb2 := Lib.hid ((bz.block _ (blkX hBb.out)).trans hBb.out)
              clear kx hBb; have kx := k2; have hBb := hBb2; clear k2 hBb2
              replace hl2 := Lib.hid hl2; replace hdd := Lib.hid hdd; replace hzr := Lib.hid hzr; replace bz := Lib.hid bz
              replace hQ1 := Lib.hid hQ1
              go_wp2_with (fail)
              refine (dec_e (hL.out.keep kx.out) hzr.out (by omega) 10 hdd.out).mono ?_
              rintro e Y2 ⟨B2, d2, rfl, bv⟩
              have k2 := Lib.hid (kx.out.trans (bv.mono kx.out.size))
              have hBb2 := Lib.hid ((bv.block _ (blkX hBb.out)).trans hBb.out)
              clear bv kx hBb; have kx := k2; have hBb := hBb2; clear k2 hBb2
              obtain ⟨Q2, hQ2⟩ : ∃ W', W' = Y2.alloc (.cells #[.int .i64 0, .int .i64 0, .int .i64 0, .int .i64 0, .int .i64 0, .int .i64 0, .int .i64 0, .string ⟨#[]⟩, .slice B2 0 d2] 28) := ⟨_, rfl⟩
              have bb : Below Y2.heap.size Y2 Q2 := by rw [hQ2]; exact (Below.refl _ _).alloc (Nat.le_refl _) _
              have k2 := Lib.hid (kx.out.trans (bb.mono kx.out.size))
              have hBb2 := Lib.hid ((bb.block _ (blkX hBb.out)).trans hBb.out)
              clear bb kx hBb; have kx := k2; have hBb := hBb2; clear k2 hBb2
              clear hmk hzr hdd bz
              go_wp2_with (fail)
              rw [← hQ2]
              replace hQ2 := Lib.hid hQ2
              refine (dec_e (hL.out.keep kx.out) (⟨rfl, fun h => absurd h (Nat.lt_irrefl 0)⟩ : RB _ none 0 []) (by omega) 10 dec_nil').mono ?_
              rintro e Y3 ⟨B3, d3, rfl, bv⟩
              have k3 := Lib.hid (kx.out.trans (bv.mono kx.out.size))
              have hBb2 := Lib.hid ((bv.block _ (blkX hBb.out)).trans hBb.out)
              clear bv kx hBb; have kx := k3; have hBb := hBb2; clear k3 hBb2
              obtain ⟨Q3, hQ3⟩ : ∃ W', W' = Y3.alloc (.cells #[.int .i64 0, .int .i64 0, .int .i64 0, .int .i64 0, .int .i64 0, .int .i64 0, .int .i64 0, .string ⟨#[]⟩, .slice B3 0 d3] 28) := ⟨_, rfl⟩
              have bb : Below Y3.heap.size Y3 Q3 := by rw [hQ3]; exact (Below.refl _ _).alloc (Nat.le_refl _) _
              have k3 := Lib.hid (kx.out.trans (bb.mono kx.out.size))
              have hBb2 := Lib.hid ((bb.block _ (blkX hBb.out)).trans hBb.out)
              clear bb kx hBb; have kx := k3; have hBb := hBb2; clear k3 hBb2
              go_wp2_with (fail)
              rw [← hQ3]
              replace hQ3 := Lib.hid hQ3
              have P0 := fun W => paxos_any 0 W
              rw [show pxB 0 = false from by decide] at P0
              have P1 := fun W => paxos_any (-1) W
              rw [show pxB (-1) = false from by decide] at P1
              refine (P0 _).mono ?_
              rintro e V5 ⟨rfl, rfl⟩
              go_wp2_with (fail)
              refine (P1 _).mono ?_
              rintro e V6 ⟨rfl, rfl⟩
              go_wp2_with (fail)
              refine (works_any _ (hL.out.keep kx.out)).mono ?_
              rintro e V7 ⟨rfl, bv⟩
              have k7 := Lib.hid (kx.out.trans (bv.mono kx.out.size))
              clear bv
              go_wp2_with (fail)
              go_ret
              exact ⟨rfl, k7.out⟩
            exact AllReadyH.nil
end Go.Proofs.YtlinjanflenljaaGreatDoor
