/- The walk of DedupPlays. -/
import Derived.Test.YtkdfhackpmdgfaaDoorFew
namespace Go.Proofs.YtkdfhackpmdgfaaDoor
open Go.RowKit Go.Shelf
set_option linter.unusedSimpArgs false
set_option linter.unusedVariables false
set_option linter.unusedSectionVars false
set_option maxRecDepth 10000
set_option maxHeartbeats 64000000 in
theorem plays_walk {A : Option Addr} {n c : Nat} {ss : List St} (a : Int) (h0 : 0 ≤ a) (h1 : a ≤ 255) (y : Ef) (w : World) (hA : SSt w A n ss) (hok : ∀ s ∈ ss, okSt s) (hn : n ≤ 140737488355328) : Calls Tryd.prog 4 #[.int .u8 a, .slice A n c, .agg #[.int .i64 y.1, .int .i64 y.2.1, .int .i64 y.2.2]] w fun e w' => e = .returned (.bool true) ∧ Below w.heap.size w w' := by
  obtain ⟨y1, y2, y3⟩ := y
  simp only
  have e1 : a.tmod 40 = a % 40 := Int.tmod_eq_emod_of_nonneg h0
  obtain ⟨size, hsz⟩ : ∃ s, s = a % 40 := ⟨_, rfl⟩
  have hz0 : 0 ≤ size := by omega
  have hz1 : size ≤ 2048 := by omega
  rw [← hsz] at e1
  have e2 : IntKind.i64.wrap size = size := by simp [IntKind.wrap, IntKind.signed, IntKind.bits]; omega
  have kb := (Below.refl _ w).alloc (Nat.le_refl _) (.cells #[.int .i64 y1, .int .i64 y2, .int .i64 y3] 23)
  have hb0 := hpNew w (.cells #[.int .i64 y1, .int .i64 y2, .int .i64 y3] 23)
  have hA1 := SL.keep hA kb
  obtain ⟨w1, hw1⟩ : ∃ x, x = w.alloc (.cells #[.int .i64 y1, .int .i64 y2, .int .i64 y3] 23) := ⟨_, rfl⟩
  rw [← hw1] at kb hb0 hA1
  have hfew := few_any (c := c) w1 hA1 hn
  replace kb := Lib.hid kb; replace hb0 := Lib.hid hb0; replace hA1 := Lib.hid hA1; replace hok := Lib.hid hok; replace hA := Lib.hid hA
  have e3 : a % 40 = size := hsz.symm
  replace hsz := Lib.hid hsz
  go_enter Tryd.func4, Tryd.ntmps4
  go_wp2_with (fail)
  rw [← hw1]
  replace hw1 := Lib.hid hw1
  refine hfew.mono ?_
  rintro e w2 ⟨b, rfl, hb80, bf⟩
  clear hfew
  cases b with
  | false =>
    have K2 := Lib.hid (kb.out.trans (bf.mono kb.out.size))
    clear bf hb80
    go_wp2_with (fail)
    refine (works_any _).mono ?_
    rintro e w9 ⟨rfl, b9⟩
    have K9 := Lib.hid (K2.out.trans (b9.mono K2.out.size))
    clear b9
    go_wp2_with (fail)
    go_ret
    exact ⟨rfl, K9.out⟩
  | true =>
    have hn80 : n ≤ 80 := hb80 rfl
    have hne := new_ok size w2.heap.size w2 hz0 hz1 (Nat.le_refl _)
    replace bf := Lib.hid bf
    clear hb80 hn
    go_wp2_with (fail)
    refine hne.mono ?_
    rintro e w3 ⟨rfl, ht, hb3⟩
    have T := tb_new ht hb3
    have hn2 := rnew_ok size w2.heap.size w3 hz0 hz1 T.le
    clear hne ht
    replace T := Lib.hid T; replace hb3 := Lib.hid hb3
    go_wp2_with (fail)
    refine hn2.mono ?_
    rintro e w4 ⟨rfl, hr, hb4⟩
    have hC : Cur w2 w2.heap.size w3.heap.size size [] [] w4 := ⟨T.out.below hb4, ⟨⟨_, _, hr⟩, T.out.bel.trans (hb4.mono T.out.le), Nat.le_trans T.out.le hb4.size⟩⟩
    clear hn2 hr hb3 hb4 T e1 e2 e3
    replace hC := Lib.hid hC
    go_wp2_with (fail)
    go_loopw [7, 9, 11, 12, 45] (fun v7 v9 o p i wr => ∃ (k : Nat) (w0 : World) (D E : Nat) (P R : List En), v7 = .pointer (some ⟨D, 0, none⟩) ∧ v9 = .pointer (some ⟨E, 0, none⟩) ∧ i = .int .i64 k ∧ k ≤ n ∧ Cur w0 D E size P R wr ∧ Same P R ∧ OldT size w0 o p ∧ Below w1.heap.size w1 w0) (fun _ _ _ _ i _ => n - (intOf i).toNat)
    case atStart => exact ⟨0, w2, _, _, [], [], rfl, rfl, rfl, by omega, hC.out, Same.nil, .inl ⟨rfl, rfl⟩, bf.out⟩
    case round =>
      clear hC
      revert wr
      intro w5 hrel
      obtain ⟨k, w0, D, E, P, R, rfl, rfl, rfl, hk, hC, hS, hO, hw0⟩ := hrel
      have hbw : Below w1.heap.size w1 w5 := hw0.trans (hC.bel.mono hw0.size)
      by_cases hlt : k < n
      · obtain ⟨xb, xo, s, rfl, hs, c0, c1, c2, c3, c4, c5, c6, c7, c8, c9⟩ := (SL.keep hA1.out hbw).cells10 hlt
        obtain ⟨hk1, ha1, hb1⟩ := hok.out _ (List.mem_of_getElem? hs)
        obtain ⟨dv, ⟨e1, e2, e3⟩, key, ⟨r1, r2, r3⟩, ⟨g1, g2⟩⟩ := s
        simp only at c0 c1 c2 c3 c4 c5 c6 c7 c8 c9 hk1 ha1 hb1
        have hY0 := (hbw.block _ (blkX hb0.out)).trans hb0.out
        have hP : P.length ≤ 2048 := by obtain ⟨A', c', ht⟩ := hC.t.tab; have := ht.le; have := ht.sz; omega
        have bb := (Below.refl _ w5).alloc (Nat.le_refl _) (.cells #[.int .i64 dv, .int .i64 e1, .int .i64 e2, .int .i64 e3, .string key, .int .i64 r1, .int .i64 r2, .string r3, .string g1, .string g2] 45)
        have hbx := hpNew w5 (.cells #[.int .i64 dv, .int .i64 e1, .int .i64 e2, .int .i64 e3, .string key, .int .i64 r1, .int .i64 r2, .string r3, .string g1, .string g2] 45)
        have z0 := blkC hbx 0; have z1 := blkC hbx 1; have z2 := blkC hbx 2; have z3 := blkC hbx 3; have z4 := blkC hbx 4; have z5 := blkC hbx 5; have z6 := blkC hbx 6; have z7 := blkC hbx 7; have z8 := blkC hbx 8; have z9 := blkC hbx 9
        simp only [List.getElem?_toArray, List.getElem?_cons_zero, List.getElem?_cons_succ] at z0 z1 z2 z3 z4 z5 z6 z7 z8 z9
        have C := Lib.hid (hC.below bb)
        have Y := Lib.hid ((bb.block _ (blkX hY0)).trans hY0)
        have hbV := Lib.hid (hbw.trans (bb.mono hbw.size))
        obtain ⟨V, hV⟩ : ∃ V, V = w5.alloc (.cells #[.int .i64 dv, .int .i64 e1, .int .i64 e2, .int .i64 e3, .string key, .int .i64 r1, .int .i64 r2, .string r3, .string g1, .string g2] 45) := ⟨_, rfl⟩
        rw [← hV] at hbx C Y hbV
        have bx := Lib.hid hbx
        have hOO := Lib.hid hO
        have S := Lib.hid hS
        have j0 : (0 : Int) ≤ k := by omega
        have j1 : (k : Int) < n := by omega
        replace hs := Lib.hid hs; replace hY0 := Lib.hid hY0; replace hC := Lib.hid hC; replace hw0 := Lib.hid hw0; replace hbw := Lib.hid hbw; replace bb := Lib.hid bb; replace hP := Lib.hid hP
        clear hbx hS
        by_cases d0 : dv = 0
        · subst d0
          rcases hO with ⟨rfl, rfl⟩ | ⟨b0, b0', v0, v0', D0, E0, P0, R0, rfl, rfl, T0, R0t, S0⟩
          · go_wp2_with (fail)
            rw [← hV]
            replace hV := Lib.hid hV
            clear z0 c0 z1 c1 z2 c2 z3 c3 z4 c4 z5 c5 z6 c6 z7 c7 z8 c8 z9 c9
            have hSv : ∀ W : World, W.heap[w5.heap.size]? = some (.cells #[.int .i64 0, .int .i64 e1, .int .i64 e2, .int .i64 e3, .string key, .int .i64 r1, .int .i64 r2, .string r3, .string g1, .string g2] 45 (0, 0)) → (fun w' : World => w'.cell? ⟨w5.heap.size, 1, none⟩ = some (.int .i64 e1) ∧ w'.cell? ⟨w5.heap.size, 2, none⟩ = some (.int .i64 e2) ∧ w'.cell? ⟨w5.heap.size, 3, none⟩ = some (.int .i64 e3) ∧ w'.cell? ⟨w5.heap.size, 4, none⟩ = some (.string key) ∧ w'.cell? ⟨w5.heap.size, 5, none⟩ = some (.int .i64 r1) ∧ w'.cell? ⟨w5.heap.size, 6, none⟩ = some (.int .i64 r2) ∧ w'.cell? ⟨w5.heap.size, 7, none⟩ = some (.string r3)) W := by
              intro W hb
              have f1 := blkC hb 1; have f2 := blkC hb 2; have f3 := blkC hb 3; have f4 := blkC hb 4; have f5 := blkC hb 5; have f6 := blkC hb 6; have f7 := blkC hb 7
              simp only [List.getElem?_toArray, List.getElem?_cons_zero, List.getElem?_cons_succ] at f1 f2 f3 f4 f5 f6 f7
              exact ⟨f1, f2, f3, f4, f5, f6, f7⟩
            replace hSv := Lib.hid hSv
            have bD : Below V.heap.size V V.drew := (Below.refl _ V).drew
            have CX := Lib.hid (C.out.below bD)
            clear C; have C := CX; clear CX
            have YX := Lib.hid ((bD.block _ (blkX Y.out)).trans Y.out)
            clear Y; have Y := YX; clear YX
            have bxX := Lib.hid ((bD.block _ (blkX bx.out)).trans bx.out)
            clear bx; have bx := bxX; clear bxX
            clear bD
            obtain ⟨pv, hpv⟩ : ∃ v, putC size P ⟨(e1, e2, e3), key, (r1, r2, r3)⟩ = v := ⟨_, rfl⟩
            replace hpv := Lib.hid hpv
            have hput := C.out.putP (e1, e2, e3) key (r1, r2, r3) hk1
            rw [hpv.out] at hput
            simp only at hput
            refine wp_region_held_drew (S := (fun w' : World => w'.cell? ⟨w5.heap.size, 1, none⟩ = some (.int .i64 e1) ∧ w'.cell? ⟨w5.heap.size, 2, none⟩ = some (.int .i64 e2) ∧ w'.cell? ⟨w5.heap.size, 3, none⟩ = some (.int .i64 e3) ∧ w'.cell? ⟨w5.heap.size, 4, none⟩ = some (.string key) ∧ w'.cell? ⟨w5.heap.size, 5, none⟩ = some (.int .i64 r1) ∧ w'.cell? ⟨w5.heap.size, 6, none⟩ = some (.int .i64 r2) ∧ w'.cell? ⟨w5.heap.size, 7, none⟩ = some (.string r3))) (by kernel_rfl) ?_ (fun hH => ?_)
            · exact hSv.out _ bx.out
            refine wpAnyH_take (i := 0) (v := ?_) rfl (by kernel_rfl) (by kernel_rfl) (by kernel_rfl) (fun _ _ _ h => h) (Or.inl ⟨by rfl, by intro w hSw; go_simp; first | done | with_reducible rfl⟩) hH ?_
            simp only [List.getElem_toArray, List.getElem_cons_succ, List.getElem_cons_zero, Act.put, List.setIfInBounds_toArray, List.set_cons_zero, List.set_cons_succ]
            refine wpAnyH_take (i := 1) (v := ?_) rfl (by kernel_rfl) (by kernel_rfl) (by kernel_rfl) (fun _ _ _ h => h) (Or.inl ⟨by rfl, by intro w hSw; go_simp; first | done | with_reducible rfl⟩) hH ?_
            simp only [List.getElem_toArray, List.getElem_cons_succ, List.getElem_cons_zero, Act.put, List.setIfInBounds_toArray, List.set_cons_zero, List.set_cons_succ]
            refine wpAnyH_take (i := 2) (v := ?_) rfl (by kernel_rfl) (by kernel_rfl) (by kernel_rfl) (fun _ _ _ h => h) (Or.inl ⟨by rfl, by intro w hSw; obtain ⟨s1, s2, s3, s4, s5, s6, s7⟩ := hSw; go_simp; first | done | with_reducible rfl⟩) hH ?_
            simp only [List.getElem_toArray, List.getElem_cons_succ, List.getElem_cons_zero, Act.put, List.setIfInBounds_toArray, List.set_cons_zero, List.set_cons_succ]
            refine wpAnyH_take (i := 3) (v := ?_) rfl (by kernel_rfl) (by kernel_rfl) (by kernel_rfl) (fun _ _ _ h => h) (Or.inl ⟨by rfl, by intro w hSw; go_simp; first | done | with_reducible rfl⟩) hH ?_
            simp only [List.getElem_toArray, List.getElem_cons_succ, List.getElem_cons_zero, Act.put, List.setIfInBounds_toArray, List.set_cons_zero, List.set_cons_succ]
            refine wpAnyH_take (i := 4) (v := ?_) rfl (by kernel_rfl) (by kernel_rfl) (by kernel_rfl) (fun _ _ _ h => h) (Or.inl ⟨by rfl, by intro w hSw; obtain ⟨s1, s2, s3, s4, s5, s6, s7⟩ := hSw; go_simp; first | done | with_reducible rfl⟩) hH ?_
            simp only [List.getElem_toArray, List.getElem_cons_succ, List.getElem_cons_zero, Act.put, List.setIfInBounds_toArray, List.set_cons_zero, List.set_cons_succ]
            refine wpAnyH_take (i := 5) (v := ?_) rfl (by kernel_rfl) (by kernel_rfl) (by kernel_rfl) (fun _ _ _ h => h) (Or.inl ⟨by rfl, by intro w hSw; go_simp; first | done | with_reducible rfl⟩) hH ?_
            simp only [List.getElem_toArray, List.getElem_cons_succ, List.getElem_cons_zero, Act.put, List.setIfInBounds_toArray, List.set_cons_zero, List.set_cons_succ]
            refine wpAnyH_take (i := 6) (v := ?_) rfl (by kernel_rfl) (by kernel_rfl) (by kernel_rfl) (fun _ _ _ h => h) (Or.inl ⟨by rfl, by intro w hSw; obtain ⟨s1, s2, s3, s4, s5, s6, s7⟩ := hSw; go_simp; first | done | with_reducible rfl⟩) hH ?_
            simp only [List.getElem_toArray, List.getElem_cons_succ, List.getElem_cons_zero, Act.put, List.setIfInBounds_toArray, List.set_cons_zero, List.set_cons_succ]
            refine wpAnyH_take (i := 8) (v := ?_) rfl (by kernel_rfl) (by kernel_rfl) (by kernel_rfl) (fun _ _ _ h => h) (Or.inl ⟨by rfl, by intro w hSw; go_simp; first | done | with_reducible rfl⟩) hH ?_
            simp only [List.getElem_toArray, List.getElem_cons_succ, List.getElem_cons_zero, Act.put, List.setIfInBounds_toArray, List.set_cons_zero, List.set_cons_succ]
            refine wpAnyH_take (i := 9) (v := ?_) rfl (by kernel_rfl) (by kernel_rfl) (by kernel_rfl) (fun _ _ _ h => h) (Or.inl ⟨by rfl, by intro w hSw; go_simp; first | done | with_reducible rfl⟩) hH ?_
            simp only [List.getElem_toArray, List.getElem_cons_succ, List.getElem_cons_zero, Act.put, List.setIfInBounds_toArray, List.set_cons_zero, List.set_cons_succ]
            refine wpAnyH_take (i := 10) (v := ?_) rfl (by kernel_rfl) (by kernel_rfl) (by kernel_rfl) (fun _ _ _ h => h) (Or.inl ⟨by rfl, by intro w hSw; obtain ⟨s1, s2, s3, s4, s5, s6, s7⟩ := hSw; go_simp; first | done | with_reducible rfl⟩) hH ?_
            simp only [List.getElem_toArray, List.getElem_cons_succ, List.getElem_cons_zero, Act.put, List.setIfInBounds_toArray, List.set_cons_zero, List.set_cons_succ]
            refine wpAnyH_take (i := 11) (v := ?_) rfl (by kernel_rfl) (by kernel_rfl) (by kernel_rfl) (fun _ _ _ h => h) (Or.inl ⟨by rfl, by intro w hSw; go_simp; first | done | with_reducible rfl⟩) hH ?_
            simp only [List.getElem_toArray, List.getElem_cons_succ, List.getElem_cons_zero, Act.put, List.setIfInBounds_toArray, List.set_cons_zero, List.set_cons_succ]
            refine wpAnyH_take (i := 12) (v := ?_) rfl (by kernel_rfl) (by kernel_rfl) (by kernel_rfl) (fun _ _ _ h => h) (Or.inl ⟨by rfl, by intro w hSw; obtain ⟨s1, s2, s3, s4, s5, s6, s7⟩ := hSw; go_simp; first | done | with_reducible rfl⟩) hH ?_
            simp only [List.getElem_toArray, List.getElem_cons_succ, List.getElem_cons_zero, Act.put, List.setIfInBounds_toArray, List.set_cons_zero, List.set_cons_succ]
            refine wpAnyH_take (i := 13) (v := ?_) rfl (by kernel_rfl) (by kernel_rfl) (by kernel_rfl) (fun _ _ _ h => h) (Or.inl ⟨by rfl, by intro w hSw; go_simp; first | done | with_reducible rfl⟩) hH ?_
            simp only [List.getElem_toArray, List.getElem_cons_succ, List.getElem_cons_zero, Act.put, List.setIfInBounds_toArray, List.set_cons_zero, List.set_cons_succ]
            refine wpAnyH_take (i := 14) (v := ?_) rfl (by kernel_rfl) (by kernel_rfl) (by kernel_rfl) (fun _ _ _ h => h) (Or.inl ⟨by rfl, by intro w hSw; obtain ⟨s1, s2, s3, s4, s5, s6, s7⟩ := hSw; go_simp; first | done | with_reducible rfl⟩) hH ?_
            simp only [List.getElem_toArray, List.getElem_cons_succ, List.getElem_cons_zero, Act.put, List.setIfInBounds_toArray, List.set_cons_zero, List.set_cons_succ]
            refine wpAnyH_ready (rs := [7]) (by kernel_rfl) (by simp) ?_
            refine AllReadyH.cons rfl (fun K hK => ?_) ?_
            · clear hH
              go_simp
              refine hput.mono ?_
              rintro e' V1 ⟨rfl, C1, kt⟩
              have bxX := Lib.hid (kt _ _ _ _ bx.out (by decide) (by decide) (by decide) (by decide)); clear bx; have bx := bxX; clear bxX
              have YX := Lib.hid (kt _ _ _ _ Y.out (by decide) (by decide) (by decide) (by decide)); clear Y; have Y := YX; clear YX
              clear hput kt C; have C := Lib.hid C1; clear C1
              refine hK.out _ _ (hSv.out _ bx.out) (fun hH => ?_)
              clear hK K
              refine wpAnyH_ready (rs := [15]) (by kernel_rfl) (by simp) ?_
              refine AllReadyH.cons rfl (fun K hK => ?_) ?_
              · clear hH
                have hput := C.out.putR (e1, e2, e3) key (r1, r2, r3) hk1
                rw [← S.out.putC size ⟨(e1, e2, e3), key, (r1, r2, r3)⟩, hpv.out] at hput
                simp only at hput
                go_simp
                refine hput.mono ?_
                rintro e' V2 ⟨rfl, C1, kt⟩
                have bxX := Lib.hid (kt _ _ _ _ bx.out (by decide) (by decide) (by decide) (by decide)); clear bx; have bx := bxX; clear bxX
                have YX := Lib.hid (kt _ _ _ _ Y.out (by decide) (by decide) (by decide) (by decide)); clear Y; have Y := YX; clear YX
                clear hput kt C; have C := Lib.hid C1; clear C1
                refine hK.out _ _ (hSv.out _ bx.out) (fun hH => ?_)
                clear hK K
                refine wpAnyH_take (i := 16) (v := ?_) rfl (by kernel_rfl) (by kernel_rfl) (by kernel_rfl) (fun _ _ _ h => h) (Or.inl ⟨by rfl, by intro w hSw; go_simp; first | done | with_reducible rfl⟩) hH ?_
                simp only [List.getElem_toArray, List.getElem_cons_succ, List.getElem_cons_zero, Act.put, List.setIfInBounds_toArray, List.set_cons_zero, List.set_cons_succ]
                refine wpAnyH_done (by kernel_rfl) ?_ _
                clear hH hSv
                have SX := Lib.hid (S.out.put size ⟨(e1, e2, e3), key, (r1, r2, r3)⟩); clear S; have S := SX; clear SX
                have x1 := blkC bx.out 1; have x2 := blkC bx.out 2; have x3 := blkC bx.out 3
                simp only [List.getElem?_toArray, List.getElem?_cons_zero, List.getElem?_cons_succ] at x1 x2 x3
                have hsh := shows_any C.out.t C.out.r S.out hz0 (e1, e2, e3)
                simp only at hsh
                go_wp2_with (fail)
                clear x1 x2 x3
                refine hsh.mono ?_
                rintro e Va ⟨rfl, ba⟩
                clear hsh
                have CX := Lib.hid (C.out.below ba)
                clear C; have C := CX; clear CX
                have YX := Lib.hid ((ba.block _ (blkX Y.out)).trans Y.out)
                clear Y; have Y := YX; clear YX
                clear ba bx
                have q0 := blkC Y.out 0; have q1 := blkC Y.out 1; have q2 := blkC Y.out 2
                simp only [List.getElem?_toArray, List.getElem?_cons_zero, List.getElem?_cons_succ] at q0 q1 q2
                have hsh := shows_any C.out.t C.out.r S.out hz0 (y1, y2, y3)
                simp only at hsh
                go_wp2_with (fail)
                clear q0 q1 q2
                refine hsh.mono ?_
                rintro e Vb ⟨rfl, bb2⟩
                clear hsh
                have CX := Lib.hid (C.out.below bb2)
                clear C; have C := CX; clear CX
                have YX := Lib.hid ((bb2.block _ (blkX Y.out)).trans Y.out)
                clear Y; have Y := YX; clear YX
                clear bb2
                go_wp2_with (fail)
                exact ⟨⟨k + 1, w0, D, E, _, _, rfl, rfl, by go_num, by omega, C.out, S.out, hOO.out, hw0.out⟩, by simp [intOf]; omega⟩
              exact AllReadyH.nil
            exact AllReadyH.nil
          · replace T0 := Lib.hid T0; replace R0t := Lib.hid R0t; replace S0 := Lib.hid S0
            go_wp2_with (fail)
            rw [← hV]
            replace hV := Lib.hid hV
            clear z0 c0 z1 c1 z2 c2 z3 c3 z4 c4 z5 c5 z6 c6 z7 c7 z8 c8 z9 c9
            have hSv : ∀ W : World, W.heap[w5.heap.size]? = some (.cells #[.int .i64 0, .int .i64 e1, .int .i64 e2, .int .i64 e3, .string key, .int .i64 r1, .int .i64 r2, .string r3, .string g1, .string g2] 45 (0, 0)) → (fun w' : World => w'.cell? ⟨w5.heap.size, 1, none⟩ = some (.int .i64 e1) ∧ w'.cell? ⟨w5.heap.size, 2, none⟩ = some (.int .i64 e2) ∧ w'.cell? ⟨w5.heap.size, 3, none⟩ = some (.int .i64 e3) ∧ w'.cell? ⟨w5.heap.size, 4, none⟩ = some (.string key) ∧ w'.cell? ⟨w5.heap.size, 5, none⟩ = some (.int .i64 r1) ∧ w'.cell? ⟨w5.heap.size, 6, none⟩ = some (.int .i64 r2) ∧ w'.cell? ⟨w5.heap.size, 7, none⟩ = some (.string r3)) W := by
              intro W hb
              have f1 := blkC hb 1; have f2 := blkC hb 2; have f3 := blkC hb 3; have f4 := blkC hb 4; have f5 := blkC hb 5; have f6 := blkC hb 6; have f7 := blkC hb 7
              simp only [List.getElem?_toArray, List.getElem?_cons_zero, List.getElem?_cons_succ] at f1 f2 f3 f4 f5 f6 f7
              exact ⟨f1, f2, f3, f4, f5, f6, f7⟩
            replace hSv := Lib.hid hSv
            have bD : Below V.heap.size V V.drew := (Below.refl _ V).drew
            have CX := Lib.hid (C.out.below bD)
            clear C; have C := CX; clear CX
            have YX := Lib.hid ((bD.block _ (blkX Y.out)).trans Y.out)
            clear Y; have Y := YX; clear YX
            have bxX := Lib.hid ((bD.block _ (blkX bx.out)).trans bx.out)
            clear bx; have bx := bxX; clear bxX
            clear bD
            obtain ⟨pv, hpv⟩ : ∃ v, putC size P ⟨(e1, e2, e3), key, (r1, r2, r3)⟩ = v := ⟨_, rfl⟩
            replace hpv := Lib.hid hpv
            have hput := C.out.putP (e1, e2, e3) key (r1, r2, r3) hk1
            rw [hpv.out] at hput
            simp only at hput
            refine wp_region_held_drew (S := (fun w' : World => w'.cell? ⟨w5.heap.size, 1, none⟩ = some (.int .i64 e1) ∧ w'.cell? ⟨w5.heap.size, 2, none⟩ = some (.int .i64 e2) ∧ w'.cell? ⟨w5.heap.size, 3, none⟩ = some (.int .i64 e3) ∧ w'.cell? ⟨w5.heap.size, 4, none⟩ = some (.string key) ∧ w'.cell? ⟨w5.heap.size, 5, none⟩ = some (.int .i64 r1) ∧ w'.cell? ⟨w5.heap.size, 6, none⟩ = some (.int .i64 r2) ∧ w'.cell? ⟨w5.heap.size, 7, none⟩ = some (.string r3))) (by kernel_rfl) ?_ (fun hH => ?_)
            · exact hSv.out _ bx.out
            refine wpAnyH_take (i := 0) (v := ?_) rfl (by kernel_rfl) (by kernel_rfl) (by kernel_rfl) (fun _ _ _ h => h) (Or.inl ⟨by rfl, by intro w hSw; go_simp; first | done | with_reducible rfl⟩) hH ?_
            simp only [List.getElem_toArray, List.getElem_cons_succ, List.getElem_cons_zero, Act.put, List.setIfInBounds_toArray, List.set_cons_zero, List.set_cons_succ]
            refine wpAnyH_take (i := 1) (v := ?_) rfl (by kernel_rfl) (by kernel_rfl) (by kernel_rfl) (fun _ _ _ h => h) (Or.inl ⟨by rfl, by intro w hSw; go_simp; first | done | with_reducible rfl⟩) hH ?_
            simp only [List.getElem_toArray, List.getElem_cons_succ, List.getElem_cons_zero, Act.put, List.setIfInBounds_toArray, List.set_cons_zero, List.set_cons_succ]
            refine wpAnyH_take (i := 2) (v := ?_) rfl (by kernel_rfl) (by kernel_rfl) (by kernel_rfl) (fun _ _ _ h => h) (Or.inl ⟨by rfl, by intro w hSw; obtain ⟨s1, s2, s3, s4, s5, s6, s7⟩ := hSw; go_simp; first | done | with_reducible rfl⟩) hH ?_
            simp only [List.getElem_toArray, List.getElem_cons_succ, List.getElem_cons_zero, Act.put, List.setIfInBounds_toArray, List.set_cons_zero, List.set_cons_succ]
            refine wpAnyH_take (i := 3) (v := ?_) rfl (by kernel_rfl) (by kernel_rfl) (by kernel_rfl) (fun _ _ _ h => h) (Or.inl ⟨by rfl, by intro w hSw; go_simp; first | done | with_reducible rfl⟩) hH ?_
            simp only [List.getElem_toArray, List.getElem_cons_succ, List.getElem_cons_zero, Act.put, List.setIfInBounds_toArray, List.set_cons_zero, List.set_cons_succ]
            refine wpAnyH_take (i := 4) (v := ?_) rfl (by kernel_rfl) (by kernel_rfl) (by kernel_rfl) (fun _ _ _ h => h) (Or.inl ⟨by rfl, by intro w hSw; obtain ⟨s1, s2, s3, s4, s5, s6, s7⟩ := hSw; go_simp; first | done | with_reducible rfl⟩) hH ?_
            simp only [List.getElem_toArray, List.getElem_cons_succ, List.getElem_cons_zero, Act.put, List.setIfInBounds_toArray, List.set_cons_zero, List.set_cons_succ]
            refine wpAnyH_take (i := 5) (v := ?_) rfl (by kernel_rfl) (by kernel_rfl) (by kernel_rfl) (fun _ _ _ h => h) (Or.inl ⟨by rfl, by intro w hSw; go_simp; first | done | with_reducible rfl⟩) hH ?_
            simp only [List.getElem_toArray, List.getElem_cons_succ, List.getElem_cons_zero, Act.put, List.setIfInBounds_toArray, List.set_cons_zero, List.set_cons_succ]
            refine wpAnyH_take (i := 6) (v := ?_) rfl (by kernel_rfl) (by kernel_rfl) (by kernel_rfl) (fun _ _ _ h => h) (Or.inl ⟨by rfl, by intro w hSw; obtain ⟨s1, s2, s3, s4, s5, s6, s7⟩ := hSw; go_simp; first | done | with_reducible rfl⟩) hH ?_
            simp only [List.getElem_toArray, List.getElem_cons_succ, List.getElem_cons_zero, Act.put, List.setIfInBounds_toArray, List.set_cons_zero, List.set_cons_succ]
            refine wpAnyH_take (i := 8) (v := ?_) rfl (by kernel_rfl) (by kernel_rfl) (by kernel_rfl) (fun _ _ _ h => h) (Or.inl ⟨by rfl, by intro w hSw; go_simp; first | done | with_reducible rfl⟩) hH ?_
            simp only [List.getElem_toArray, List.getElem_cons_succ, List.getElem_cons_zero, Act.put, List.setIfInBounds_toArray, List.set_cons_zero, List.set_cons_succ]
            refine wpAnyH_take (i := 9) (v := ?_) rfl (by kernel_rfl) (by kernel_rfl) (by kernel_rfl) (fun _ _ _ h => h) (Or.inl ⟨by rfl, by intro w hSw; go_simp; first | done | with_reducible rfl⟩) hH ?_
            simp only [List.getElem_toArray, List.getElem_cons_succ, List.getElem_cons_zero, Act.put, List.setIfInBounds_toArray, List.set_cons_zero, List.set_cons_succ]
            refine wpAnyH_take (i := 10) (v := ?_) rfl (by kernel_rfl) (by kernel_rfl) (by kernel_rfl) (fun _ _ _ h => h) (Or.inl ⟨by rfl, by intro w hSw; obtain ⟨s1, s2, s3, s4, s5, s6, s7⟩ := hSw; go_simp; first | done | with_reducible rfl⟩) hH ?_
            simp only [List.getElem_toArray, List.getElem_cons_succ, List.getElem_cons_zero, Act.put, List.setIfInBounds_toArray, List.set_cons_zero, List.set_cons_succ]
            refine wpAnyH_take (i := 11) (v := ?_) rfl (by kernel_rfl) (by kernel_rfl) (by kernel_rfl) (fun _ _ _ h => h) (Or.inl ⟨by rfl, by intro w hSw; go_simp; first | done | with_reducible rfl⟩) hH ?_
            simp only [List.getElem_toArray, List.getElem_cons_succ, List.getElem_cons_zero, Act.put, List.setIfInBounds_toArray, List.set_cons_zero, List.set_cons_succ]
            refine wpAnyH_take (i := 12) (v := ?_) rfl (by kernel_rfl) (by kernel_rfl) (by kernel_rfl) (fun _ _ _ h => h) (Or.inl ⟨by rfl, by intro w hSw; obtain ⟨s1, s2, s3, s4, s5, s6, s7⟩ := hSw; go_simp; first | done | with_reducible rfl⟩) hH ?_
            simp only [List.getElem_toArray, List.getElem_cons_succ, List.getElem_cons_zero, Act.put, List.setIfInBounds_toArray, List.set_cons_zero, List.set_cons_succ]
            refine wpAnyH_take (i := 13) (v := ?_) rfl (by kernel_rfl) (by kernel_rfl) (by kernel_rfl) (fun _ _ _ h => h) (Or.inl ⟨by rfl, by intro w hSw; go_simp; first | done | with_reducible rfl⟩) hH ?_
            simp only [List.getElem_toArray, List.getElem_cons_succ, List.getElem_cons_zero, Act.put, List.setIfInBounds_toArray, List.set_cons_zero, List.set_cons_succ]
            refine wpAnyH_take (i := 14) (v := ?_) rfl (by kernel_rfl) (by kernel_rfl) (by kernel_rfl) (fun _ _ _ h => h) (Or.inl ⟨by rfl, by intro w hSw; obtain ⟨s1, s2, s3, s4, s5, s6, s7⟩ := hSw; go_simp; first | done | with_reducible rfl⟩) hH ?_
            simp only [List.getElem_toArray, List.getElem_cons_succ, List.getElem_cons_zero, Act.put, List.setIfInBounds_toArray, List.set_cons_zero, List.set_cons_succ]
            refine wpAnyH_ready (rs := [7]) (by kernel_rfl) (by simp) ?_
            refine AllReadyH.cons rfl (fun K hK => ?_) ?_
            · clear hH
              go_simp
              refine hput.mono ?_
              rintro e' V1 ⟨rfl, C1, kt⟩
              have bxX := Lib.hid (kt _ _ _ _ bx.out (by decide) (by decide) (by decide) (by decide)); clear bx; have bx := bxX; clear bxX
              have YX := Lib.hid (kt _ _ _ _ Y.out (by decide) (by decide) (by decide) (by decide)); clear Y; have Y := YX; clear YX
              clear hput kt C; have C := Lib.hid C1; clear C1
              refine hK.out _ _ (hSv.out _ bx.out) (fun hH => ?_)
              clear hK K
              refine wpAnyH_ready (rs := [15]) (by kernel_rfl) (by simp) ?_
              refine AllReadyH.cons rfl (fun K hK => ?_) ?_
              · clear hH
                have hput := C.out.putR (e1, e2, e3) key (r1, r2, r3) hk1
                rw [← S.out.putC size ⟨(e1, e2, e3), key, (r1, r2, r3)⟩, hpv.out] at hput
                simp only at hput
                go_simp
                refine hput.mono ?_
                rintro e' V2 ⟨rfl, C1, kt⟩
                have bxX := Lib.hid (kt _ _ _ _ bx.out (by decide) (by decide) (by decide) (by decide)); clear bx; have bx := bxX; clear bxX
                have YX := Lib.hid (kt _ _ _ _ Y.out (by decide) (by decide) (by decide) (by decide)); clear Y; have Y := YX; clear YX
                clear hput kt C; have C := Lib.hid C1; clear C1
                refine hK.out _ _ (hSv.out _ bx.out) (fun hH => ?_)
                clear hK K
                refine wpAnyH_take (i := 16) (v := ?_) rfl (by kernel_rfl) (by kernel_rfl) (by kernel_rfl) (fun _ _ _ h => h) (Or.inl ⟨by rfl, by intro w hSw; go_simp; first | done | with_reducible rfl⟩) hH ?_
                simp only [List.getElem_toArray, List.getElem_cons_succ, List.getElem_cons_zero, Act.put, List.setIfInBounds_toArray, List.set_cons_zero, List.set_cons_succ]
                refine wpAnyH_done (by kernel_rfl) ?_ _
                clear hH hSv
                have SX := Lib.hid (S.out.put size ⟨(e1, e2, e3), key, (r1, r2, r3)⟩); clear S; have S := SX; clear SX
                have x1 := blkC bx.out 1; have x2 := blkC bx.out 2; have x3 := blkC bx.out 3
                simp only [List.getElem?_toArray, List.getElem?_cons_zero, List.getElem?_cons_succ] at x1 x2 x3
                have hsh := shows_any C.out.t C.out.r S.out hz0 (e1, e2, e3)
                simp only at hsh
                go_wp2_with (fail)
                clear x1 x2 x3
                refine hsh.mono ?_
                rintro e Va ⟨rfl, ba⟩
                clear hsh
                have CX := Lib.hid (C.out.below ba)
                clear C; have C := CX; clear CX
                have YX := Lib.hid ((ba.block _ (blkX Y.out)).trans Y.out)
                clear Y; have Y := YX; clear YX
                clear ba bx
                have q0 := blkC Y.out 0; have q1 := blkC Y.out 1; have q2 := blkC Y.out 2
                simp only [List.getElem?_toArray, List.getElem?_cons_zero, List.getElem?_cons_succ] at q0 q1 q2
                have hsh := shows_any C.out.t C.out.r S.out hz0 (y1, y2, y3)
                simp only at hsh
                go_wp2_with (fail)
                clear q0 q1 q2
                refine hsh.mono ?_
                rintro e Vb ⟨rfl, bb2⟩
                clear hsh
                have CX := Lib.hid (C.out.below bb2)
                clear C; have C := CX; clear CX
                have YX := Lib.hid ((bb2.block _ (blkX Y.out)).trans Y.out)
                clear Y; have Y := YX; clear YX
                clear bb2
                have q0 := blkC Y.out 0; have q1 := blkC Y.out 1; have q2 := blkC Y.out 2
                simp only [List.getElem?_toArray, List.getElem?_cons_zero, List.getElem?_cons_succ] at q0 q1 q2
                have hsh := shows_any (T0.out.below C.out.bel) (R0t.out.below C.out.bel) S0.out hz0 (y1, y2, y3)
                simp only at hsh
                go_wp2_with (fail)
                clear q0 q1 q2
                refine hsh.mono ?_
                rintro e Vc ⟨rfl, bc⟩
                clear hsh
                have CX := Lib.hid (C.out.below bc)
                clear C; have C := CX; clear CX
                clear bc
                go_wp2_with (fail)
                exact ⟨⟨k + 1, w0, D, E, _, _, rfl, rfl, by go_num, by omega, C.out, S.out, hOO.out, hw0.out⟩, by simp [intOf]; omega⟩
              exact AllReadyH.nil
            exact AllReadyH.nil
        · by_cases d1 : dv = 1
          · subst d1
            rcases hO with ⟨rfl, rfl⟩ | ⟨b0, b0', v0, v0', D0, E0, P0, R0, rfl, rfl, T0, R0t, S0⟩
            · go_wp2_with (fail)
              rw [← hV]
              replace hV := Lib.hid hV
              clear z0 c0 z1 c1 z2 c2 z3 c3 z4 c4 z5 c5 z6 c6 z7 c7 z8 c8 z9 c9
              have htk := C.out.takeP g1 g2 ha1 hb1
              refine htk.mono ?_
              rintro e Vt ⟨L, m, d, rfl, hm, hL, hLr, C1, hro, kt⟩
              have bxX := Lib.hid (kt _ _ _ _ bx.out (by decide) (by decide) (by decide) (by decide)); clear bx; have bx := bxX; clear bxX
              have YX := Lib.hid (kt _ _ _ _ Y.out (by decide) (by decide) (by decide) (by decide)); clear Y; have Y := YX; clear YX
              clear htk kt C; have C := Lib.hid C1; clear C1
              have x8 := blkC bx.out 8; have x9 := blkC bx.out 9
              simp only [List.getElem?_toArray, List.getElem?_cons_zero, List.getElem?_cons_succ] at x8 x9
              have htk := C.out.takeR hro hL hLr g1 g2 ha1 hb1
              clear hro hLr
              replace hL := Lib.hid hL; replace hm := Lib.hid hm
              go_wp2_with (fail)
              clear x8 x9
              refine htk.mono ?_
              rintro e Vu ⟨L2, m2, d2, rfl, hL2, hL1, C1, kt⟩
              have bxX := Lib.hid (kt _ _ _ _ bx.out (by decide) (by decide) (by decide) (by decide)); clear bx; have bx := bxX; clear bxX
              have YX := Lib.hid (kt _ _ _ _ Y.out (by decide) (by decide) (by decide) (by decide)); clear Y; have Y := YX; clear YX
              clear htk kt C hL; have C := Lib.hid C1; clear C1
              have hS2 := S.out.take (g1, g2)
              have hml : m ≤ 2048 := by rw [hm.out]; unfold takeO; split <;> simp <;> exact Nat.le_trans (List.length_filter_le _ _) hP.out
              have hm2 : m2 = m := by rw [hm.out, hS2.2]; exact hL2.1.symm
              have heq := equal_any L L2 m d m2 d2 _ _ _ hL1 hL2 (by omega) (by omega)
              rw [decide_eq_true hS2.2] at heq
              have SX := Lib.hid hS2.1; clear S hS2; have S := SX; clear SX
              clear hL1 hL2 hm hml hm2
              go_wp2_with (fail)
              refine heq.mono ?_
              rintro e Vv ⟨rfl, bv⟩
              clear heq
              have CX := Lib.hid (C.out.below bv)
              clear C; have C := CX; clear CX
              have YX := Lib.hid ((bv.block _ (blkX Y.out)).trans Y.out)
              clear Y; have Y := YX; clear YX
              have bxX := Lib.hid ((bv.block _ (blkX bx.out)).trans bx.out)
              clear bx; have bx := bxX; clear bxX
              clear bv
              have x1 := blkC bx.out 1; have x2 := blkC bx.out 2; have x3 := blkC bx.out 3
              simp only [List.getElem?_toArray, List.getElem?_cons_zero, List.getElem?_cons_succ] at x1 x2 x3
              have hsh := shows_any C.out.t C.out.r S.out hz0 (e1, e2, e3)
              simp only at hsh
              go_wp2_with (fail)
              clear x1 x2 x3
              refine hsh.mono ?_
              rintro e Va ⟨rfl, ba⟩
              clear hsh
              have CX := Lib.hid (C.out.below ba)
              clear C; have C := CX; clear CX
              have YX := Lib.hid ((ba.block _ (blkX Y.out)).trans Y.out)
              clear Y; have Y := YX; clear YX
              clear ba bx
              have q0 := blkC Y.out 0; have q1 := blkC Y.out 1; have q2 := blkC Y.out 2
              simp only [List.getElem?_toArray, List.getElem?_cons_zero, List.getElem?_cons_succ] at q0 q1 q2
              have hsh := shows_any C.out.t C.out.r S.out hz0 (y1, y2, y3)
              simp only at hsh
              go_wp2_with (fail)
              clear q0 q1 q2
              refine hsh.mono ?_
              rintro e Vb ⟨rfl, bb2⟩
              clear hsh
              have CX := Lib.hid (C.out.below bb2)
              clear C; have C := CX; clear CX
              have YX := Lib.hid ((bb2.block _ (blkX Y.out)).trans Y.out)
              clear Y; have Y := YX; clear YX
              clear bb2
              go_wp2_with (fail)
              exact ⟨⟨k + 1, w0, D, E, _, _, rfl, rfl, by go_num, by omega, C.out, S.out, hOO.out, hw0.out⟩, by simp [intOf]; omega⟩
            · replace T0 := Lib.hid T0; replace R0t := Lib.hid R0t; replace S0 := Lib.hid S0
              go_wp2_with (fail)
              rw [← hV]
              replace hV := Lib.hid hV
              clear z0 c0 z1 c1 z2 c2 z3 c3 z4 c4 z5 c5 z6 c6 z7 c7 z8 c8 z9 c9
              have htk := C.out.takeP g1 g2 ha1 hb1
              refine htk.mono ?_
              rintro e Vt ⟨L, m, d, rfl, hm, hL, hLr, C1, hro, kt⟩
              have bxX := Lib.hid (kt _ _ _ _ bx.out (by decide) (by decide) (by decide) (by decide)); clear bx; have bx := bxX; clear bxX
              have YX := Lib.hid (kt _ _ _ _ Y.out (by decide) (by decide) (by decide) (by decide)); clear Y; have Y := YX; clear YX
              clear htk kt C; have C := Lib.hid C1; clear C1
              have x8 := blkC bx.out 8; have x9 := blkC bx.out 9
              simp only [List.getElem?_toArray, List.getElem?_cons_zero, List.getElem?_cons_succ] at x8 x9
              have htk := C.out.takeR hro hL hLr g1 g2 ha1 hb1
              clear hro hLr
              replace hL := Lib.hid hL; replace hm := Lib.hid hm
              go_wp2_with (fail)
              clear x8 x9
              refine htk.mono ?_
              rintro e Vu ⟨L2, m2, d2, rfl, hL2, hL1, C1, kt⟩
              have bxX := Lib.hid (kt _ _ _ _ bx.out (by decide) (by decide) (by decide) (by decide)); clear bx; have bx := bxX; clear bxX
              have YX := Lib.hid (kt _ _ _ _ Y.out (by decide) (by decide) (by decide) (by decide)); clear Y; have Y := YX; clear YX
              clear htk kt C hL; have C := Lib.hid C1; clear C1
              have hS2 := S.out.take (g1, g2)
              have hml : m ≤ 2048 := by rw [hm.out]; unfold takeO; split <;> simp <;> exact Nat.le_trans (List.length_filter_le _ _) hP.out
              have hm2 : m2 = m := by rw [hm.out, hS2.2]; exact hL2.1.symm
              have heq := equal_any L L2 m d m2 d2 _ _ _ hL1 hL2 (by omega) (by omega)
              rw [decide_eq_true hS2.2] at heq
              have SX := Lib.hid hS2.1; clear S hS2; have S := SX; clear SX
              clear hL1 hL2 hm hml hm2
              go_wp2_with (fail)
              refine heq.mono ?_
              rintro e Vv ⟨rfl, bv⟩
              clear heq
              have CX := Lib.hid (C.out.below bv)
              clear C; have C := CX; clear CX
              have YX := Lib.hid ((bv.block _ (blkX Y.out)).trans Y.out)
              clear Y; have Y := YX; clear YX
              have bxX := Lib.hid ((bv.block _ (blkX bx.out)).trans bx.out)
              clear bx; have bx := bxX; clear bxX
              clear bv
              have x1 := blkC bx.out 1; have x2 := blkC bx.out 2; have x3 := blkC bx.out 3
              simp only [List.getElem?_toArray, List.getElem?_cons_zero, List.getElem?_cons_succ] at x1 x2 x3
              have hsh := shows_any C.out.t C.out.r S.out hz0 (e1, e2, e3)
              simp only at hsh
              go_wp2_with (fail)
              clear x1 x2 x3
              refine hsh.mono ?_
              rintro e Va ⟨rfl, ba⟩
              clear hsh
              have CX := Lib.hid (C.out.below ba)
              clear C; have C := CX; clear CX
              have YX := Lib.hid ((ba.block _ (blkX Y.out)).trans Y.out)
              clear Y; have Y := YX; clear YX
              clear ba bx
              have q0 := blkC Y.out 0; have q1 := blkC Y.out 1; have q2 := blkC Y.out 2
              simp only [List.getElem?_toArray, List.getElem?_cons_zero, List.getElem?_cons_succ] at q0 q1 q2
              have hsh := shows_any C.out.t C.out.r S.out hz0 (y1, y2, y3)
              simp only at hsh
              go_wp2_with (fail)
              clear q0 q1 q2
              refine hsh.mono ?_
              rintro e Vb ⟨rfl, bb2⟩
              clear hsh
              have CX := Lib.hid (C.out.below bb2)
              clear C; have C := CX; clear CX
              have YX := Lib.hid ((bb2.block _ (blkX Y.out)).trans Y.out)
              clear Y; have Y := YX; clear YX
              clear bb2
              have q0 := blkC Y.out 0; have q1 := blkC Y.out 1; have q2 := blkC Y.out 2
              simp only [List.getElem?_toArray, List.getElem?_cons_zero, List.getElem?_cons_succ] at q0 q1 q2
              have hsh := shows_any (T0.out.below C.out.bel) (R0t.out.below C.out.bel) S0.out hz0 (y1, y2, y3)
              simp only at hsh
              go_wp2_with (fail)
              clear q0 q1 q2
              refine hsh.mono ?_
              rintro e Vc ⟨rfl, bc⟩
              clear hsh
              have CX := Lib.hid (C.out.below bc)
              clear C; have C := CX; clear CX
              clear bc
              go_wp2_with (fail)
              exact ⟨⟨k + 1, w0, D, E, _, _, rfl, rfl, by go_num, by omega, C.out, S.out, hOO.out, hw0.out⟩, by simp [intOf]; omega⟩
          · by_cases d2 : dv = 2
            · subst d2
              go_wp2_with (fail)
              rw [← hV]
              replace hV := Lib.hid hV
              clear z0 c0 z1 c1 z2 c2 z3 c3 z4 c4 z5 c5 z6 c6 z7 c7 z8 c8 z9 c9
              have hcp := C.out.copyP
              refine hcp.mono ?_
              rintro e Vt ⟨D', rfl, T', bA⟩
              have T0 := Lib.hid C.out.t; have R0t := Lib.hid C.out.r
              have hcp2 := Cur.copyR R0t.out T' bA
              clear hcp C
              replace T' := Lib.hid T'; replace bA := Lib.hid bA
              go_wp2_with (fail)
              refine hcp2.mono ?_
              rintro e Vu ⟨E', rfl, C1, bB⟩
              have C := Lib.hid C1
              have YX := Lib.hid ((bB.block _ (blkX Y.out)).trans Y.out)
              clear Y; have Y := YX; clear YX
              have bxX := Lib.hid ((bB.block _ (blkX bx.out)).trans bx.out)
              clear bx; have bx := bxX; clear bxX
              clear C1 bB hcp2 T' bA
              have hON : OldT size V (.pointer (some ⟨D, 0, none⟩)) (.pointer (some ⟨E, 0, none⟩)) := .inr ⟨_, _, _, _, D, E, P, R, rfl, rfl, T0.out, R0t.out, S.out⟩
              have S0 := S
              replace hON := Lib.hid hON
              have x1 := blkC bx.out 1; have x2 := blkC bx.out 2; have x3 := blkC bx.out 3
              simp only [List.getElem?_toArray, List.getElem?_cons_zero, List.getElem?_cons_succ] at x1 x2 x3
              have hsh := shows_any C.out.t C.out.r S.out hz0 (e1, e2, e3)
              simp only at hsh
              go_wp2_with (fail)
              clear x1 x2 x3
              refine hsh.mono ?_
              rintro e Va ⟨rfl, ba⟩
              clear hsh
              have CX := Lib.hid (C.out.below ba)
              clear C; have C := CX; clear CX
              have YX := Lib.hid ((ba.block _ (blkX Y.out)).trans Y.out)
              clear Y; have Y := YX; clear YX
              clear ba bx
              have q0 := blkC Y.out 0; have q1 := blkC Y.out 1; have q2 := blkC Y.out 2
              simp only [List.getElem?_toArray, List.getElem?_cons_zero, List.getElem?_cons_succ] at q0 q1 q2
              have hsh := shows_any C.out.t C.out.r S.out hz0 (y1, y2, y3)
              simp only at hsh
              go_wp2_with (fail)
              clear q0 q1 q2
              refine hsh.mono ?_
              rintro e Vb ⟨rfl, bb2⟩
              clear hsh
              have CX := Lib.hid (C.out.below bb2)
              clear C; have C := CX; clear CX
              have YX := Lib.hid ((bb2.block _ (blkX Y.out)).trans Y.out)
              clear Y; have Y := YX; clear YX
              clear bb2
              have q0 := blkC Y.out 0; have q1 := blkC Y.out 1; have q2 := blkC Y.out 2
              simp only [List.getElem?_toArray, List.getElem?_cons_zero, List.getElem?_cons_succ] at q0 q1 q2
              have hsh := shows_any (T0.out.below C.out.bel) (R0t.out.below C.out.bel) S0.out hz0 (y1, y2, y3)
              simp only at hsh
              go_wp2_with (fail)
              clear q0 q1 q2
              refine hsh.mono ?_
              rintro e Vc ⟨rfl, bc⟩
              clear hsh
              have CX := Lib.hid (C.out.below bc)
              clear C; have C := CX; clear CX
              clear bc
              go_wp2_with (fail)
              exact ⟨⟨k + 1, V, D', E', _, _, rfl, rfl, by go_num, by omega, C.out, S.out, hON.out, hbV.out⟩, by simp [intOf]; omega⟩
            · rcases hO with ⟨rfl, rfl⟩ | ⟨b0, b0', v0, v0', D0, E0, P0, R0, rfl, rfl, T0, R0t, S0⟩
              · go_wp2_with (fail)
                rw [← hV]
                replace hV := Lib.hid hV
                clear z0 c0 z1 c1 z2 c2 z3 c3 z4 c4 z5 c5 z6 c6 z7 c7 z8 c8 z9 c9
                have hsh := shows_any C.out.t C.out.r S.out hz0 (e1, e2, e3)
                simp only at hsh
                refine hsh.mono ?_
                rintro e Va ⟨rfl, ba⟩
                clear hsh
                have CX := Lib.hid (C.out.below ba)
                clear C; have C := CX; clear CX
                have YX := Lib.hid ((ba.block _ (blkX Y.out)).trans Y.out)
                clear Y; have Y := YX; clear YX
                clear ba bx
                have q0 := blkC Y.out 0; have q1 := blkC Y.out 1; have q2 := blkC Y.out 2
                simp only [List.getElem?_toArray, List.getElem?_cons_zero, List.getElem?_cons_succ] at q0 q1 q2
                have hsh := shows_any C.out.t C.out.r S.out hz0 (y1, y2, y3)
                simp only at hsh
                go_wp2_with (fail)
                clear q0 q1 q2
                refine hsh.mono ?_
                rintro e Vb ⟨rfl, bb2⟩
                clear hsh
                have CX := Lib.hid (C.out.below bb2)
                clear C; have C := CX; clear CX
                have YX := Lib.hid ((bb2.block _ (blkX Y.out)).trans Y.out)
                clear Y; have Y := YX; clear YX
                clear bb2
                go_wp2_with (fail)
                exact ⟨⟨k + 1, w0, D, E, _, _, rfl, rfl, by go_num, by omega, C.out, S.out, hOO.out, hw0.out⟩, by simp [intOf]; omega⟩
              · replace T0 := Lib.hid T0; replace R0t := Lib.hid R0t; replace S0 := Lib.hid S0
                go_wp2_with (fail)
                rw [← hV]
                replace hV := Lib.hid hV
                clear z0 c0 z1 c1 z2 c2 z3 c3 z4 c4 z5 c5 z6 c6 z7 c7 z8 c8 z9 c9
                have hsh := shows_any C.out.t C.out.r S.out hz0 (e1, e2, e3)
                simp only at hsh
                refine hsh.mono ?_
                rintro e Va ⟨rfl, ba⟩
                clear hsh
                have CX := Lib.hid (C.out.below ba)
                clear C; have C := CX; clear CX
                have YX := Lib.hid ((ba.block _ (blkX Y.out)).trans Y.out)
                clear Y; have Y := YX; clear YX
                clear ba bx
                have q0 := blkC Y.out 0; have q1 := blkC Y.out 1; have q2 := blkC Y.out 2
                simp only [List.getElem?_toArray, List.getElem?_cons_zero, List.getElem?_cons_succ] at q0 q1 q2
                have hsh := shows_any C.out.t C.out.r S.out hz0 (y1, y2, y3)
                simp only at hsh
                go_wp2_with (fail)
                clear q0 q1 q2
                refine hsh.mono ?_
                rintro e Vb ⟨rfl, bb2⟩
                clear hsh
                have CX := Lib.hid (C.out.below bb2)
                clear C; have C := CX; clear CX
                have YX := Lib.hid ((bb2.block _ (blkX Y.out)).trans Y.out)
                clear Y; have Y := YX; clear YX
                clear bb2
                have q0 := blkC Y.out 0; have q1 := blkC Y.out 1; have q2 := blkC Y.out 2
                simp only [List.getElem?_toArray, List.getElem?_cons_zero, List.getElem?_cons_succ] at q0 q1 q2
                have hsh := shows_any (T0.out.below C.out.bel) (R0t.out.below C.out.bel) S0.out hz0 (y1, y2, y3)
                simp only at hsh
                go_wp2_with (fail)
                clear q0 q1 q2
                refine hsh.mono ?_
                rintro e Vc ⟨rfl, bc⟩
                clear hsh
                have CX := Lib.hid (C.out.below bc)
                clear C; have C := CX; clear CX
                clear bc
                go_wp2_with (fail)
                exact ⟨⟨k + 1, w0, D, E, _, _, rfl, rfl, by go_num, by omega, C.out, S.out, hOO.out, hw0.out⟩, by simp [intOf]; omega⟩
      · obtain rfl : k = n := by omega
        have KW := Lib.hid (kb.out.trans (hbw.mono kb.out.size))
        clear hlt hk hC hS hO hw0 hbw
        go_wp2_with (fail)
        refine (works_any _).mono ?_
        rintro e w9 ⟨rfl, b9⟩
        have K9 := Lib.hid (KW.out.trans (b9.mono KW.out.size))
        clear b9
        go_wp2_with (fail)
        go_ret
        exact ⟨rfl, K9.out⟩
end Go.Proofs.YtkdfhackpmdgfaaDoor
