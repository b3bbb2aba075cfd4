/- The document's order of entries. -/
import Derived.Test.YtkdfhackpmdgfaaDoorROwn
namespace Go.Proofs.YtkdfhackpmdgfaaDoor
open Go.RowKit Go.Shelf
set_option linter.unusedSimpArgs false
set_option linter.unusedVariables false
set_option linter.unusedSectionVars false
set_option maxRecDepth 10000
attribute [local go_sem ↓] hideAppend
attribute [-go_sem] sliced
set_option maxHeartbeats 16000000 in
theorem sorted_any {B : Option Addr} {n cB : Nat} {Rl : List En} (w : World) (hR : RS w B n Rl) (hn : n ≤ 4000) : Calls Tryd.prog 39 #[.slice B n cB] w fun e w' => ∃ A c, e = .returned (.slice A n c) ∧ OwnE w A n c (srtE (Rl.map En.e)) w' := by
  have hRl := hR.1
  replace hR := Lib.hid hR
  go_enter Tryd.func39, Tryd.ntmps39
  go_wp2_with (fail)
  go_loopw [3, 4] (fun v i wr => ∃ (k : Nat) (A : Option Addr) (c : Nat), v = .slice A k c ∧ i = .int .i64 k ∧ k ≤ n ∧ OwnE w A k c (srtE ((Rl.take k).map En.e)) wr) (fun _ i _ => n - (intOf i).toNat)
  case atStart => exact ⟨0, none, 0, rfl, rfl, by omega, OwnE.nil w w (Below.refl _ _)⟩
  case round =>
    revert wr
    intro W1 hrel
    obtain ⟨k, A, c, rfl, rfl, hk, hO⟩ := hrel
    by_cases hlt : k < n
    · have hRS := SL.keep hR.out hO.bel
      obtain ⟨xb, xo, x, rfl, hxl, hx, hcell⟩ := hRS.at_ hlt
      have hs := srtE_more hx
      obtain ⟨ol, hol⟩ : ∃ o, o = srtE ((Rl.take k).map En.e) := ⟨_, rfl⟩
      rw [← hol] at hO hs
      have hE := hO.es
      have hcp := hO.cap
      have hoL := hO.len
      have j0 : (0 : Int) ≤ k := by omega
      have j1 : (k : Int) < n := by omega
      have ce := fun W (hb : Below W1.heap.size W1 W) => (show W.cell? ⟨xb, xo + k * 7, none⟩ = some (.int .i64 x.e.1) ∧ W.cell? ⟨xb, xo + k * 7 + 1, none⟩ = some (.int .i64 x.e.2.1) ∧ W.cell? ⟨xb, xo + k * 7 + 2, none⟩ = some (.int .i64 x.e.2.2) from
        ⟨(hb.cell (p := ⟨xb, _, none⟩) hxl).trans (hcell 0 _ rfl), (hb.cell (p := ⟨xb, _, none⟩) hxl).trans (hcell 1 _ rfl), (hb.cell (p := ⟨xb, _, none⟩) hxl).trans (hcell 2 _ rfl)⟩)
      replace hO := Lib.hid hO; replace hE := Lib.hid hE; replace hol := Lib.hid hol; replace hs := Lib.hid hs; replace hx := Lib.hid hx; replace ce := Lib.hid ce; replace hRS := Lib.hid hRS
      clear hcell
      go_wp2_with (fail)
      go_loopw [5] (fun a wr => ∃ j : Nat, a = .int .i64 j ∧ j ≤ k ∧ (∀ z ∈ ol.take j, efLt z x.e = true) ∧ Below W1.heap.size W1 wr) (fun a _ => k - (intOf a).toNat)
      case atStart => exact ⟨0, rfl, by omega, by simp, Below.refl _ _⟩
      case round =>
        revert wr
        intro W2 hrel
        obtain ⟨j, rfl, hj, hlow, hb2⟩ := hrel
        have hE2 := SL.keep hE.out hb2
        by_cases hjk : j < k
        · obtain ⟨yb, yo, y, rfl, hyl, hy, d0, d1, d2⟩ := ES.at_ hE2 hjk
          obtain ⟨c0, c1, c2⟩ := ce.out W2 hb2
          have i0 : (0 : Int) ≤ j := by omega
          have i1 : (j : Int) < k := by omega
          have hord := fun W => rorder_any y x.e W
          obtain ⟨o, ho⟩ : ∃ o, o = cmpE y x.e := ⟨_, rfl⟩
          rw [← ho] at hord
          replace hE2 := Lib.hid hE2; replace hb2 := Lib.hid hb2; replace hlow := Lib.hid hlow; replace hy := Lib.hid hy; replace ho := Lib.hid ho
          go_wp2_with (fail)
          have hSv : ∀ W : World, Below W1.heap.size W1 W → (fun w' : World => w'.cell? ⟨yb, yo + j * 3, none⟩ = some (.int .i64 y.1) ∧ w'.cell? ⟨yb, yo + j * 3 + 1, none⟩ = some (.int .i64 y.2.1) ∧ w'.cell? ⟨yb, yo + j * 3 + 2, none⟩ = some (.int .i64 y.2.2) ∧ w'.cell? ⟨xb, xo + k * 7, none⟩ = some (.int .i64 x.e.1) ∧ w'.cell? ⟨xb, xo + k * 7 + 1, none⟩ = some (.int .i64 x.e.2.1) ∧ w'.cell? ⟨xb, xo + k * 7 + 2, none⟩ = some (.int .i64 x.e.2.2)) W := by
            intro W hb
            obtain ⟨c0, c1, c2⟩ := ce.out W hb
            have hEW := SL.keep hE.out hb
            obtain ⟨yb', yo', y', e, _, hy', f0, f1, f2⟩ := ES.at_ hEW (i := j) (by omega)
            injection e with e
            injection e with e1 e2
            subst e1 e2
            obtain rfl : y' = y := Option.some.inj (hy'.symm.trans hy.out)
            exact ⟨f0, f1, f2, c0, c1, c2⟩
          replace hSv := Lib.hid hSv
          refine wp_region_held_drew (S := (fun w' : World => w'.cell? ⟨yb, yo + j * 3, none⟩ = some (.int .i64 y.1) ∧ w'.cell? ⟨yb, yo + j * 3 + 1, none⟩ = some (.int .i64 y.2.1) ∧ w'.cell? ⟨yb, yo + j * 3 + 2, none⟩ = some (.int .i64 y.2.2) ∧ w'.cell? ⟨xb, xo + k * 7, none⟩ = some (.int .i64 x.e.1) ∧ w'.cell? ⟨xb, xo + k * 7 + 1, none⟩ = some (.int .i64 x.e.2.1) ∧ w'.cell? ⟨xb, xo + k * 7 + 2, none⟩ = some (.int .i64 x.e.2.2))) (by kernel_rfl) ?_ (fun hH => ?_)
          · exact hSv.out _ hb2.out.drew
          refine wpAnyH_take (i := 0) (v := ?_) rfl (by kernel_rfl) (by kernel_rfl) (by kernel_rfl) (fun _ _ _ h => h) (Or.inl ⟨by rfl, by intro w hSw; go_simp; first | done | with_reducible rfl⟩) hH ?_
          simp only [List.getElem_toArray, List.getElem_cons_succ, List.getElem_cons_zero, Act.put, List.setIfInBounds_toArray, List.set_cons_zero, List.set_cons_succ]
          refine wpAnyH_take (i := 1) (v := ?_) rfl (by kernel_rfl) (by kernel_rfl) (by kernel_rfl) (fun _ _ _ h => h) (Or.inl ⟨by rfl, by intro w hSw; go_simp; first | done | with_reducible rfl⟩) hH ?_
          simp only [List.getElem_toArray, List.getElem_cons_succ, List.getElem_cons_zero, Act.put, List.setIfInBounds_toArray, List.set_cons_zero, List.set_cons_succ]
          refine wpAnyH_take (i := 2) (v := ?_) rfl (by kernel_rfl) (by kernel_rfl) (by kernel_rfl) (fun _ _ _ h => h) (Or.inl ⟨by rfl, by intro w hSw; go_simp; first | done | with_reducible rfl⟩) hH ?_
          simp only [List.getElem_toArray, List.getElem_cons_succ, List.getElem_cons_zero, Act.put, List.setIfInBounds_toArray, List.set_cons_zero, List.set_cons_succ]
          refine wpAnyH_take (i := 3) (v := ?_) rfl (by kernel_rfl) (by kernel_rfl) (by kernel_rfl) (fun _ _ _ h => h) (Or.inl ⟨by rfl, by intro w hSw; go_simp; first | done | with_reducible rfl⟩) hH ?_
          simp only [List.getElem_toArray, List.getElem_cons_succ, List.getElem_cons_zero, Act.put, List.setIfInBounds_toArray, List.set_cons_zero, List.set_cons_succ]
          refine wpAnyH_take (i := 4) (v := ?_) rfl (by kernel_rfl) (by kernel_rfl) (by kernel_rfl) (fun _ _ _ h => h) (Or.inl ⟨by rfl, by intro w hSw; go_simp; first | done | with_reducible rfl⟩) hH ?_
          simp only [List.getElem_toArray, List.getElem_cons_succ, List.getElem_cons_zero, Act.put, List.setIfInBounds_toArray, List.set_cons_zero, List.set_cons_succ]
          refine wpAnyH_take (i := 5) (v := ?_) rfl (by kernel_rfl) (by kernel_rfl) (by kernel_rfl) (fun _ _ _ h => h) (Or.inl ⟨by rfl, by intro w hSw; go_simp; first | done | with_reducible rfl⟩) hH ?_
          simp only [List.getElem_toArray, List.getElem_cons_succ, List.getElem_cons_zero, Act.put, List.setIfInBounds_toArray, List.set_cons_zero, List.set_cons_succ]
          refine wpAnyH_take (i := 6) (v := ?_) rfl (by kernel_rfl) (by kernel_rfl) (by kernel_rfl) (fun _ _ _ h => h) (Or.inl ⟨by rfl, by intro w hSw; go_simp; first | done | with_reducible rfl⟩) hH ?_
          simp only [List.getElem_toArray, List.getElem_cons_succ, List.getElem_cons_zero, Act.put, List.setIfInBounds_toArray, List.set_cons_zero, List.set_cons_succ]
          refine wpAnyH_take (i := 7) (v := ?_) rfl (by kernel_rfl) (by kernel_rfl) (by kernel_rfl) (fun _ _ _ h => h) (Or.inl ⟨by rfl, by intro w hSw; go_simp; first | done | with_reducible rfl⟩) hH ?_
          simp only [List.getElem_toArray, List.getElem_cons_succ, List.getElem_cons_zero, Act.put, List.setIfInBounds_toArray, List.set_cons_zero, List.set_cons_succ]
          refine wpAnyH_take (i := 8) (v := ?_) rfl (by kernel_rfl) (by kernel_rfl) (by kernel_rfl) (fun _ _ _ h => h) (Or.inl ⟨by rfl, by intro w hSw; obtain ⟨s0, s1, s2, s3, s4, s5⟩ := hSw; go_simp; first | done | with_reducible rfl⟩) hH ?_
          simp only [List.getElem_toArray, List.getElem_cons_succ, List.getElem_cons_zero, Act.put, List.setIfInBounds_toArray, List.set_cons_zero, List.set_cons_succ]
          refine wpAnyH_take (i := 9) (v := ?_) rfl (by kernel_rfl) (by kernel_rfl) (by kernel_rfl) (fun _ _ _ h => h) (Or.inl ⟨by rfl, by intro w hSw; go_simp; first | done | with_reducible rfl⟩) hH ?_
          simp only [List.getElem_toArray, List.getElem_cons_succ, List.getElem_cons_zero, Act.put, List.setIfInBounds_toArray, List.set_cons_zero, List.set_cons_succ]
          refine wpAnyH_take (i := 10) (v := ?_) rfl (by kernel_rfl) (by kernel_rfl) (by kernel_rfl) (fun _ _ _ h => h) (Or.inl ⟨by rfl, by intro w hSw; go_simp; first | done | with_reducible rfl⟩) hH ?_
          simp only [List.getElem_toArray, List.getElem_cons_succ, List.getElem_cons_zero, Act.put, List.setIfInBounds_toArray, List.set_cons_zero, List.set_cons_succ]
          refine wpAnyH_take (i := 11) (v := ?_) rfl (by kernel_rfl) (by kernel_rfl) (by kernel_rfl) (fun _ _ _ h => h) (Or.inl ⟨by rfl, by intro w hSw; go_simp; first | done | with_reducible rfl⟩) hH ?_
          simp only [List.getElem_toArray, List.getElem_cons_succ, List.getElem_cons_zero, Act.put, List.setIfInBounds_toArray, List.set_cons_zero, List.set_cons_succ]
          refine wpAnyH_take (i := 12) (v := ?_) rfl (by kernel_rfl) (by kernel_rfl) (by kernel_rfl) (fun _ _ _ h => h) (Or.inl ⟨by rfl, by intro w hSw; go_simp; first | done | with_reducible rfl⟩) hH ?_
          simp only [List.getElem_toArray, List.getElem_cons_succ, List.getElem_cons_zero, Act.put, List.setIfInBounds_toArray, List.set_cons_zero, List.set_cons_succ]
          refine wpAnyH_take (i := 13) (v := ?_) rfl (by kernel_rfl) (by kernel_rfl) (by kernel_rfl) (fun _ _ _ h => h) (Or.inl ⟨by rfl, by intro w hSw; obtain ⟨s0, s1, s2, s3, s4, s5⟩ := hSw; go_simp; first | done | with_reducible rfl⟩) hH ?_
          simp only [List.getElem_toArray, List.getElem_cons_succ, List.getElem_cons_zero, Act.put, List.setIfInBounds_toArray, List.set_cons_zero, List.set_cons_succ]
          refine wpAnyH_ready (rs := [14]) (by kernel_rfl) (by simp) ?_
          refine AllReadyH.cons rfl (fun K hK => ?_) ?_
          · clear hH
            go_simp
            refine (hord _).mono ?_
            rintro e' V ⟨rfl, bV⟩
            have hb3 := Lib.hid (hb2.out.drew.trans (bV.mono hb2.out.drew.size))
            clear bV
            refine hK.out _ _ (hSv.out _ hb3.out) (fun hH => ?_)
            clear hK K
            refine wpAnyH_take (i := 15) (v := ?_) rfl (by kernel_rfl) (by kernel_rfl) (by kernel_rfl) (fun _ _ _ h => h) (Or.inl ⟨by rfl, by intro w hSw; go_simp; first | done | with_reducible rfl⟩) hH ?_
            simp only [List.getElem_toArray, List.getElem_cons_succ, List.getElem_cons_zero, Act.put, List.setIfInBounds_toArray, List.set_cons_zero, List.set_cons_succ]
            refine wpAnyH_take (i := 16) (v := ?_) rfl (by kernel_rfl) (by kernel_rfl) (by kernel_rfl) (fun _ _ _ h => h) (Or.inl ⟨by rfl, by intro w hSw; go_simp; first | done | with_reducible rfl⟩) hH ?_
            simp only [List.getElem_toArray, List.getElem_cons_succ, List.getElem_cons_zero, Act.put, List.setIfInBounds_toArray, List.set_cons_zero, List.set_cons_succ]
            refine wpAnyH_done (by kernel_rfl) ?_ _
            clear hH
            by_cases ho0 : o < 0
            · go_wp2_with (fail)
              exact ⟨⟨j + 1, by go_num, by omega, fun z hz => (take_more' hy.out hz).elim (fun q => hlow.out z q) (fun q => by rw [q]; exact (cmpE_neg _ _).1 (by rw [← ho.out]; exact ho0)), hb3.out⟩, by simp [intOf]; omega⟩
            · have hnext : ∀ z, ol[j]? = some z → efLt z x.e = false := fun z hz => by
                obtain rfl : z = y := Option.some.inj (hz.symm.trans hy.out)
                rw [Bool.eq_false_iff]
                intro q
                have h5 := (cmpE_neg _ _).2 q
                rw [← ho.out] at h5
                omega
              have hins := insE_at (x := x.e) (l := ol) (j := j) (by omega) hlow.out hnext
              replace hins := Lib.hid hins
              clear hnext
              have hO3 := hO.out.below hb3.out
              have hE3 := hO3.es
              obtain ⟨X, hX, hXS⟩ := SL.low hE3 (m := j) (by omega) hcp
              obtain ⟨Y, dY, hY, hYS⟩ := SL.high hE3 (m := j) (by omega) hcp
              have hN := OwnE.nil w V hO3.bel
              obtain ⟨A4, c4, W4, hr4, hO4, hg4, ha4⟩ := catE (d := c) hN hXS (by omega) (by omega)
              rw [Nat.zero_add] at hr4 hO4
              have hb4 : Below V.heap.size V W4 := below_of_grown hg4 (Nat.le_refl _) (fun g hg => by cases hg)
              have hn4 : ∀ g, rowOf A4 = some g → V.heap.size ≤ g := fun g hg => by rcases ha4 with q | q <;> rw [q] at hg <;> cases hg; exact Nat.le_refl _
              obtain ⟨c0, c1, c2⟩ := ce.out W4 (hb3.out.trans (hb4.mono hb3.out.size))
              have kb := (Below.refl _ W4).alloc (Nat.le_refl _) (.cells #[.int .i64 x.e.1, .int .i64 x.e.2.1, .int .i64 x.e.2.2] 23)
              have he5 := ef_one W4 x.e
              obtain ⟨A6, c6, W6, hr6, hO6, hg6, ha6⟩ := catE (d := 1) (hO4.below kb) he5 (by omega) (by omega)
              have hY4 := (SL.keep (SL.keep hYS hb4) kb)
              have hYrow := sliced_row hY
              have hY6 := SL.grown hY4 hg6 (fun g hg q => by
                have h1 := hn4 g q
                have h2 := hYrow g hg
                have h3 := (hO3.rowLt g h2).2
                omega)
              obtain ⟨A7, c7, W7, hr7, hO7, hg7, ha7⟩ := catE (d := dY) hO6 hY6 (by omega) (by omega)
              have hlen7 : j + 1 + (k - j) = k + 1 := by omega
              rw [hlen7] at hr7 hO7
              rw [List.nil_append, ← hins.out, ← hs.out] at hO7
              replace hO7 := Lib.hid hO7; replace hO3 := Lib.hid hO3; replace hE3 := Lib.hid hE3; replace hXS := Lib.hid hXS; replace hYS := Lib.hid hYS; replace hN := Lib.hid hN; replace hO4 := Lib.hid hO4; replace hg4 := Lib.hid hg4; replace hb4 := Lib.hid hb4; replace hn4 := Lib.hid hn4; replace he5 := Lib.hid he5; replace hO6 := Lib.hid hO6; replace hg6 := Lib.hid hg6; replace hY4 := Lib.hid hY4; replace hY6 := Lib.hid hY6; replace hg7 := Lib.hid hg7; replace kb := Lib.hid kb; replace hYrow := Lib.hid hYrow
              clear ha4 ha6 ha7
              go_wp2_with (fail)
              skip
              exact ⟨⟨k + 1, A7, c7, rfl, by go_num, by omega, hO7.out⟩, by simp [intOf]; omega⟩
          exact AllReadyH.nil
        · obtain rfl : j = k := by omega
          replace hE2 := Lib.hid hE2; replace hb2 := Lib.hid hb2; replace hlow := Lib.hid hlow
          clear hjk hj
          go_wp2_with (fail)
          refine wp_region_any (by kernel_rfl) ?_
          try (change wpAny _ _ _ _ _ _ _ (World.drew _))
          refine wpAny_take (i := 0) (v := ?_) rfl (by kernel_rfl) (by kernel_rfl) (by kernel_rfl) (fun _ _ _ h => h) (Or.inl ⟨by rfl, by intro w; go_simp; first | done | with_reducible rfl⟩) ?_
          simp only [List.getElem_toArray, List.getElem_cons_succ, List.getElem_cons_zero, Act.put, List.setIfInBounds_toArray, List.set_cons_zero, List.set_cons_succ]
          refine wpAny_take (i := 1) (v := ?_) rfl (by kernel_rfl) (by kernel_rfl) (by kernel_rfl) (fun _ _ _ h => h) (Or.inl ⟨by rfl, by intro w; go_simp; first | done | with_reducible rfl⟩) ?_
          simp only [List.getElem_toArray, List.getElem_cons_succ, List.getElem_cons_zero, Act.put, List.setIfInBounds_toArray, List.set_cons_zero, List.set_cons_succ]
          refine wpAny_take (i := 2) (v := ?_) rfl (by kernel_rfl) (by kernel_rfl) (by kernel_rfl) (fun _ _ _ h => h) (Or.inl ⟨by rfl, by intro w; go_simp; first | done | with_reducible rfl⟩) ?_
          simp only [List.getElem_toArray, List.getElem_cons_succ, List.getElem_cons_zero, Act.put, List.setIfInBounds_toArray, List.set_cons_zero, List.set_cons_succ]
          refine wpAny_take (i := 3) (v := ?_) rfl (by kernel_rfl) (by kernel_rfl) (by kernel_rfl) (fun _ _ _ h => h) (Or.inl ⟨by rfl, by intro w; go_simp; first | done | with_reducible rfl⟩) ?_
          simp only [List.getElem_toArray, List.getElem_cons_succ, List.getElem_cons_zero, Act.put, List.setIfInBounds_toArray, List.set_cons_zero, List.set_cons_succ]
          refine wpAny_take (i := 4) (v := ?_) rfl (by kernel_rfl) (by kernel_rfl) (by kernel_rfl) (fun _ _ _ h => h) (Or.inl ⟨by rfl, by intro w; go_simp; first | done | with_reducible rfl⟩) ?_
          simp only [List.getElem_toArray, List.getElem_cons_succ, List.getElem_cons_zero, Act.put, List.setIfInBounds_toArray, List.set_cons_zero, List.set_cons_succ]
          refine wpAny_take (i := 5) (v := undef) rfl (by kernel_rfl) (by kernel_rfl) (by kernel_rfl) (fun _ _ _ h => h) (Or.inr ⟨by rfl, rfl⟩) ?_
          simp only [List.getElem_toArray, List.getElem_cons_succ, List.getElem_cons_zero, Act.put, List.setIfInBounds_toArray, List.set_cons_zero, List.set_cons_succ]
          refine wpAny_take (i := 6) (v := undef) rfl (by kernel_rfl) (by kernel_rfl) (by kernel_rfl) (fun _ _ _ h => h) (Or.inr ⟨by rfl, rfl⟩) ?_
          simp only [List.getElem_toArray, List.getElem_cons_succ, List.getElem_cons_zero, Act.put, List.setIfInBounds_toArray, List.set_cons_zero, List.set_cons_succ]
          refine wpAny_take (i := 7) (v := undef) rfl (by kernel_rfl) (by kernel_rfl) (by kernel_rfl) (fun _ _ _ h => h) (Or.inr ⟨by rfl, rfl⟩) ?_
          simp only [List.getElem_toArray, List.getElem_cons_succ, List.getElem_cons_zero, Act.put, List.setIfInBounds_toArray, List.set_cons_zero, List.set_cons_succ]
          refine wpAny_take (i := 8) (v := undef) rfl (by kernel_rfl) (by kernel_rfl) (by kernel_rfl) (fun _ _ _ h => h) (Or.inr ⟨by rfl, rfl⟩) ?_
          simp only [List.getElem_toArray, List.getElem_cons_succ, List.getElem_cons_zero, Act.put, List.setIfInBounds_toArray, List.set_cons_zero, List.set_cons_succ]
          refine wpAny_take (i := 9) (v := undef) rfl (by kernel_rfl) (by kernel_rfl) (by kernel_rfl) (fun _ _ _ h => h) (Or.inr ⟨by rfl, rfl⟩) ?_
          simp only [List.getElem_toArray, List.getElem_cons_succ, List.getElem_cons_zero, Act.put, List.setIfInBounds_toArray, List.set_cons_zero, List.set_cons_succ]
          refine wpAny_take (i := 10) (v := undef) rfl (by kernel_rfl) (by kernel_rfl) (by kernel_rfl) (fun _ _ _ h => h) (Or.inr ⟨by rfl, rfl⟩) ?_
          simp only [List.getElem_toArray, List.getElem_cons_succ, List.getElem_cons_zero, Act.put, List.setIfInBounds_toArray, List.set_cons_zero, List.set_cons_succ]
          refine wpAny_take (i := 11) (v := undef) rfl (by kernel_rfl) (by kernel_rfl) (by kernel_rfl) (fun _ _ _ h => h) (Or.inr ⟨by rfl, rfl⟩) ?_
          simp only [List.getElem_toArray, List.getElem_cons_succ, List.getElem_cons_zero, Act.put, List.setIfInBounds_toArray, List.set_cons_zero, List.set_cons_succ]
          refine wpAny_take (i := 12) (v := undef) rfl (by kernel_rfl) (by kernel_rfl) (by kernel_rfl) (fun _ _ _ h => h) (Or.inr ⟨by rfl, rfl⟩) ?_
          simp only [List.getElem_toArray, List.getElem_cons_succ, List.getElem_cons_zero, Act.put, List.setIfInBounds_toArray, List.set_cons_zero, List.set_cons_succ]
          refine wpAny_take (i := 13) (v := undef) rfl (by kernel_rfl) (by kernel_rfl) (by kernel_rfl) (fun _ _ _ h => h) (Or.inr ⟨by rfl, rfl⟩) ?_
          simp only [List.getElem_toArray, List.getElem_cons_succ, List.getElem_cons_zero, Act.put, List.setIfInBounds_toArray, List.set_cons_zero, List.set_cons_succ]
          refine wpAny_take (i := 14) (v := undef) rfl (by kernel_rfl) (by kernel_rfl) (by kernel_rfl) (fun _ _ _ h => h) (Or.inr ⟨by rfl, rfl⟩) ?_
          simp only [List.getElem_toArray, List.getElem_cons_succ, List.getElem_cons_zero, Act.put, List.setIfInBounds_toArray, List.set_cons_zero, List.set_cons_succ]
          refine wpAny_take (i := 15) (v := undef) rfl (by kernel_rfl) (by kernel_rfl) (by kernel_rfl) (fun _ _ _ h => h) (Or.inr ⟨by rfl, rfl⟩) ?_
          simp only [List.getElem_toArray, List.getElem_cons_succ, List.getElem_cons_zero, Act.put, List.setIfInBounds_toArray, List.set_cons_zero, List.set_cons_succ]
          refine wpAny_take (i := 16) (v := ?_) rfl (by kernel_rfl) (by kernel_rfl) (by kernel_rfl) (fun _ _ _ h => h) (Or.inl ⟨by rfl, by intro w; go_simp; first | done | with_reducible rfl⟩) ?_
          simp only [List.getElem_toArray, List.getElem_cons_succ, List.getElem_cons_zero, Act.put, List.setIfInBounds_toArray, List.set_cons_zero, List.set_cons_succ]
          refine wpAny_done (by kernel_rfl) ?_ _
          have hb3 := Lib.hid (hb2.out.drew)
          generalize W2.drew = V at *
          have hnext : ∀ z, ol[j]? = some z → efLt z x.e = false := fun z hz => by rw [List.getElem?_eq_none (by omega)] at hz; cases hz
          have hins := insE_at (x := x.e) (l := ol) (j := j) (by omega) hlow.out hnext
          replace hins := Lib.hid hins
          clear hnext
          have hO3 := hO.out.below hb3.out
          have hE3 := hO3.es
          obtain ⟨X, hX, hXS⟩ := SL.low hE3 (m := j) (by omega) hcp
          obtain ⟨Y, dY, hY, hYS⟩ := SL.high hE3 (m := j) (by omega) hcp
          have hN := OwnE.nil w V hO3.bel
          obtain ⟨A4, c4, W4, hr4, hO4, hg4, ha4⟩ := catE (d := c) hN hXS (by omega) (by omega)
          rw [Nat.zero_add] at hr4 hO4
          have hb4 : Below V.heap.size V W4 := below_of_grown hg4 (Nat.le_refl _) (fun g hg => by cases hg)
          have hn4 : ∀ g, rowOf A4 = some g → V.heap.size ≤ g := fun g hg => by rcases ha4 with q | q <;> rw [q] at hg <;> cases hg; exact Nat.le_refl _
          obtain ⟨c0, c1, c2⟩ := ce.out W4 (hb3.out.trans (hb4.mono hb3.out.size))
          have kb := (Below.refl _ W4).alloc (Nat.le_refl _) (.cells #[.int .i64 x.e.1, .int .i64 x.e.2.1, .int .i64 x.e.2.2] 23)
          have he5 := ef_one W4 x.e
          obtain ⟨A6, c6, W6, hr6, hO6, hg6, ha6⟩ := catE (d := 1) (hO4.below kb) he5 (by omega) (by omega)
          have hY4 := (SL.keep (SL.keep hYS hb4) kb)
          have hYrow := sliced_row hY
          have hY6 := SL.grown hY4 hg6 (fun g hg q => by
            have h1 := hn4 g q
            have h2 := hYrow g hg
            have h3 := (hO3.rowLt g h2).2
            omega)
          obtain ⟨A7, c7, W7, hr7, hO7, hg7, ha7⟩ := catE (d := dY) hO6 hY6 (by omega) (by omega)
          have hlen7 : j + 1 + (j - j) = j + 1 := by omega
          rw [hlen7] at hr7 hO7
          rw [Nat.sub_self] at hr7
          rw [List.nil_append, ← hins.out, ← hs.out] at hO7
          replace hO7 := Lib.hid hO7; replace hO3 := Lib.hid hO3; replace hE3 := Lib.hid hE3; replace hXS := Lib.hid hXS; replace hYS := Lib.hid hYS; replace hN := Lib.hid hN; replace hO4 := Lib.hid hO4; replace hg4 := Lib.hid hg4; replace hb4 := Lib.hid hb4; replace hn4 := Lib.hid hn4; replace he5 := Lib.hid he5; replace hO6 := Lib.hid hO6; replace hg6 := Lib.hid hg6; replace hY4 := Lib.hid hY4; replace hY6 := Lib.hid hY6; replace hg7 := Lib.hid hg7; replace kb := Lib.hid kb; replace hYrow := Lib.hid hYrow
          clear ha4 ha6 ha7
          go_wp2_with (fail)
          skip
          exact ⟨⟨j + 1, A7, c7, rfl, by go_num, by omega, hO7.out⟩, by simp [intOf]; omega⟩
    · obtain rfl : k = n := by omega
      rw [List.take_of_length_le (by omega)] at hO
      replace hO := Lib.hid hO
      clear hlt hk
      go_wp2_with (fail)
      go_ret
      exact ⟨A, c, rfl, hO.out⟩
end Go.Proofs.YtkdfhackpmdgfaaDoor
