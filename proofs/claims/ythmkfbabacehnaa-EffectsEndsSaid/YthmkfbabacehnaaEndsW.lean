/- EffectsEnds' walk. -/
import Derived.Test.YthmkfbabacehnaaEndsP
namespace Go.Proofs.Ythmkfbabacehnaa
open Go.RowKit Go.Shelf
set_option linter.unusedSimpArgs false
set_option linter.unusedVariables false
set_option linter.unusedSectionVars false
set_option maxRecDepth 10000
attribute [-go_sem] sliced
set_option maxHeartbeats 16000000 in
theorem ends_walk (s : Nat) (hs : s < 256) (w : World) : Calls Try.prog 6 #[.int .u8 s] w fun e w' => e = .returned (.bool true) ∧ Below w.heap.size w w' := by
  obtain ⟨k, hk⟩ : ∃ k : Nat, k = 1 + s % 8 := ⟨_, rfl⟩
  have hk8 : 1 ≤ k ∧ k ≤ 8 := by omega
  have hki : (1 : Int) + (s : Int) % 8 = (k : Int) := by omega
  have hok : (allS (k : Int)).2 = 0 := by rw [allS_ok hk8]
  have hcount : (allS (k : Int)).1.length = k + 2 := by rw [allS_ok hk8]; simp [seqAs]
  have hgl := fun j => allS_get (j := j) hk8
  replace hgl := Lib.hid hgl; replace hcount := Lib.hid hcount; replace hk := Lib.hid hk
  go_enter Try.func6, Try.ntmps6
  go_wp2_with (fail)
  refine (all_any k w).mono ?_
  rintro e w2 ⟨A, m, d, xs, rfl, hA⟩
  rw [hok]
  have hm : m = k + 2 := by have := hA.two; have := hcount.out; omega
  subst hm
  replace hA := Lib.hid hA
  go_wp2_with (fail)
  go_loopw [6] (fun i wr => ∃ j : Nat, j ≤ k + 2 ∧ i = .int .i64 j ∧ Below w2.heap.size w2 wr) (fun i _ => k + 2 - (intOf i).toNat)
  case atStart => exact ⟨0, by omega, rfl, Below.refl _ _⟩
  case round =>
    revert wr
    intro W1 hrel
    obtain ⟨j, hj, rfl, hb⟩ := hrel
    by_cases hlt : j < k + 2
    · obtain ⟨b, o, B1, m1, d1, ls, rfl, hbl, hcell, hls, hO⟩ := (hA.out.keep hb).at_ hlt
      have hq : (seqs 1 k)[j]? = some ((seqs 1 k)[j]'(by simp [seqs]; omega)) := List.getElem?_eq_getElem _
      generalize (seqs 1 k)[j]'(by simp [seqs]; omega) = x at hq
      have hls2 : x.2 = ls := by
        have := hgl.out j
        rw [hls, hq] at this
        simpa using this.symm
      have hsl := seqs_len (List.mem_of_getElem? hq)
      obtain ⟨F1, F2, F3, F4⟩ := endAt_iff (ends_at hk8 hq)
      rw [hls2] at F1 F2 F3 F4 hsl
      have hln := hO.len
      rw [hln] at F2 hsl
      have hC := whole_any k B1 m1 d1 ls W1 hO.es (by omega)
      rw [whole_eq, F1] at hC
      have j0 : (0 : Int) ≤ j := by omega
      have j1 : (j : Int) < ((k + 2 : Nat) : Int) := by omega
      have hd1 := hO.cap
      replace hq := Lib.hid hq; replace hls2 := Lib.hid hls2; replace hb := Lib.hid hb; replace hO := Lib.hid hO; replace F1 := Lib.hid F1; replace F3 := Lib.hid F3; replace F4 := Lib.hid F4; replace hls := Lib.hid hls; replace hln := Lib.hid hln
      have hcase : (j ≤ k ∧ m1 = 2 * j) ∨ (j = k + 1 ∧ m1 = 2 * k) := by
        by_cases h : j ≤ k
        · rw [if_pos h] at F2; exact .inl ⟨h, F2⟩
        · rw [if_neg h] at F2; exact .inr ⟨by omega, F2⟩
      clear F2
      rcases hcase with ⟨h1, h2⟩ | ⟨h1, h2⟩
      · rw [if_pos h1] at hC
        have i1 : (j : Int) ≤ k := by omega
        have i2 : ((j : Int) == (k : Int) + 1) = false := beq_false_of_ne (by omega)
        have i3 : ((m1 : Int) != 2 * (j : Int)) = false := by simp; omega
        replace h2 := Lib.hid h2
        go_wp2_with (fail)
        refine hC.mono ?_
        rintro e w5 ⟨rfl, b5⟩
        have hcell5 := (b5.cell (p := ⟨b, o + j, none⟩) hbl).trans hcell
        have hbl5 := Nat.lt_of_lt_of_le hbl b5.size
        have hb5 := hb.out.trans (b5.mono hb.out.size)
        have hO5 := Lib.hid (hO.out.keep b5)
        replace hb5 := Lib.hid hb5
        clear hC b5 hcell hO
        go_wp2_with (fail)
        go_loopw [10] (fun i wr => ∃ q : Nat, q ≤ j ∧ i = .int .i64 q ∧ Below w5.heap.size w5 wr) (fun i _ => j - (intOf i).toNat)
        case atStart => exact ⟨0, by omega, rfl, Below.refl _ _⟩
        case round =>
          obtain ⟨q, hq2, rfl, hb2⟩ := hrel
          have hcell2 := (hb2.cell (p := ⟨b, o + j, none⟩) hbl5).trans hcell5
          have hO2 := Lib.hid (hO5.out.keep hb2)
          by_cases hlt2 : q < j
          · obtain ⟨b', o', B2, m2, d2, ls2, hAe, hbl2, hcell3, hls3, hP⟩ := (hA.out.keep (hb5.out.trans (hb2.mono hb5.out.size))).at_ (i := q) (by omega)
            injection hAe with hAe
            injection hAe with hA1 hA2
            subst hA1 hA2
            have hne : ¬ ls = ls2 := fun e => by
              have h3 := F3.out q hlt2
              rw [← hgl.out q, hls3, e] at h3
              exact h3 rfl
            have hl2 : m2 ≤ 16 := by
              have := hgl.out q
              rw [hls3] at this
              obtain ⟨y, hy, he⟩ := Option.map_eq_some_iff.1 this.symm
              have h4 := seqs_len (List.mem_of_getElem? hy)
              rw [he, hP.len] at h4
              omega
            have hs := same_any B1 B2 m1 d1 m2 d2 ls ls2 wr.drew (SL.keep hO2.out.es (Below.refl _ _).drew) (SL.keep hP.es (Below.refl _ _).drew) (by omega) (by omega)
            rw [show decide (ls = ls2) = false from by simp [hne]] at hs
            have q0 : (0 : Int) ≤ q := by omega
            have q1 : (q : Int) < ((k + 2 : Nat) : Int) := by omega
            have q2 : (q : Int) < (k : Int) + 2 := by omega
            replace hb2 := Lib.hid hb2; replace hP := Lib.hid hP
            clear hls3 hne
            go_wp2_with (fail)
            refine wp_region_any (by kernel_rfl) ?_
            try (change wpAny _ _ _ _ _ _ _ (World.drew _))
            refine wpAny_take (i := 0) (v := ?_) rfl (by kernel_rfl) (by kernel_rfl) (by kernel_rfl) (fun _ _ _ h => h) (Or.inl ⟨by rfl, by intro w; go_simp; first | done | with_reducible rfl⟩) ?_
            simp only [List.getElem_toArray, List.getElem_cons_succ, List.getElem_cons_zero, Act.put, List.setIfInBounds_toArray, List.set_cons_zero, List.set_cons_succ]
            refine wpAny_take (i := 1) (v := ?_) rfl (by kernel_rfl) (by kernel_rfl) (by kernel_rfl) (fun _ _ _ h => h) (Or.inl ⟨by rfl, by intro w; go_simp; first | done | with_reducible rfl⟩) ?_
            simp only [List.getElem_toArray, List.getElem_cons_succ, List.getElem_cons_zero, Act.put, List.setIfInBounds_toArray, List.set_cons_zero, List.set_cons_succ]
            refine wpAny_take (i := 2) (v := ?_) rfl (by kernel_rfl) (by kernel_rfl) (by kernel_rfl) (fun _ _ _ h => h) (Or.inl ⟨by rfl, by intro w; go_simp; first | done | with_reducible rfl⟩) ?_
            simp only [List.getElem_toArray, List.getElem_cons_succ, List.getElem_cons_zero, Act.put, List.setIfInBounds_toArray, List.set_cons_zero, List.set_cons_succ]
            refine wpAny_take (i := 4) (v := ?_) rfl (by kernel_rfl) (by kernel_rfl) (by kernel_rfl) (fun _ _ _ h => h) (Or.inl ⟨by rfl, by intro w; go_simp; first | done | with_reducible rfl⟩) ?_
            simp only [List.getElem_toArray, List.getElem_cons_succ, List.getElem_cons_zero, Act.put, List.setIfInBounds_toArray, List.set_cons_zero, List.set_cons_succ]
            refine wpAny_take (i := 5) (v := ?_) rfl (by kernel_rfl) (by kernel_rfl) (by kernel_rfl) (fun _ _ _ h => h) (Or.inl ⟨by rfl, by intro w; go_simp; first | done | with_reducible rfl⟩) ?_
            simp only [List.getElem_toArray, List.getElem_cons_succ, List.getElem_cons_zero, Act.put, List.setIfInBounds_toArray, List.set_cons_zero, List.set_cons_succ]
            refine wpAny_take (i := 6) (v := ?_) rfl (by kernel_rfl) (by kernel_rfl) (by kernel_rfl) (fun _ _ _ h => h) (Or.inl ⟨by rfl, by intro w; go_simp; first | done | with_reducible rfl⟩) ?_
            simp only [List.getElem_toArray, List.getElem_cons_succ, List.getElem_cons_zero, Act.put, List.setIfInBounds_toArray, List.set_cons_zero, List.set_cons_succ]
            refine wpAny_ready (rs := [3, 7]) (by kernel_rfl) (by simp) ?_
            refine AllReady.cons rfl (fun K hK => ?_) ?_
            · have hK' := hK; clear hK; have hK := hK'; clear hK'
              go_simp
              refine hK _ _ ?_
              clear hK K
              refine wpAny_ready (rs := [7]) (by kernel_rfl) (by simp) ?_
              refine AllReady.cons rfl (fun K hK => ?_) ?_
              · have hK' := hK; clear hK; have hK := hK'; clear hK'
                go_simp
                refine hK _ _ ?_
                clear hK K
                refine wpAny_ready (rs := [8]) (by kernel_rfl) (by simp) ?_
                refine AllReady.cons rfl (fun K hK => ?_) ?_
                · have hK' := hK; clear hK; have hK := hK'; clear hK'
                  go_simp
                  go_wp2_with (go_at_call 16; refine hs.mono ?_; rintro e w6 ⟨rfl, b6⟩; have hb6 := Lib.hid (hb2.out.trans (((Below.refl _ _).drew.trans b6).mono hb2.out.size)))
                  first | (refine hK _ _ ?_; clear hK K) | skip
                  refine wpAny_done (by kernel_rfl) ?_ _
                  go_wp2_with (fail)
                  exact ⟨⟨q + 1, by omega, by go_num, hb6.out⟩, by simp [intOf]; omega⟩
                exact AllReady.nil
              exact AllReady.nil
            refine AllReady.cons rfl (fun K hK => ?_) ?_
            · have hK' := hK; clear hK; have hK := hK'; clear hK'
              go_simp
              refine hK _ _ ?_
              clear hK K
              refine wpAny_ready (rs := [3]) (by kernel_rfl) (by simp) ?_
              refine AllReady.cons rfl (fun K hK => ?_) ?_
              · have hK' := hK; clear hK; have hK := hK'; clear hK'
                go_simp
                refine hK _ _ ?_
                clear hK K
                refine wpAny_ready (rs := [8]) (by kernel_rfl) (by simp) ?_
                refine AllReady.cons rfl (fun K hK => ?_) ?_
                · have hK' := hK; clear hK; have hK := hK'; clear hK'
                  go_simp
                  go_wp2_with (go_at_call 16; refine hs.mono ?_; rintro e w6 ⟨rfl, b6⟩; have hb6 := Lib.hid (hb2.out.trans (((Below.refl _ _).drew.trans b6).mono hb2.out.size)))
                  first | (refine hK _ _ ?_; clear hK K) | skip
                  refine wpAny_done (by kernel_rfl) ?_ _
                  go_wp2_with (fail)
                  exact ⟨⟨q + 1, by omega, by go_num, hb6.out⟩, by simp [intOf]; omega⟩
                exact AllReady.nil
              exact AllReady.nil
            exact AllReady.nil
          · obtain rfl : q = j := by omega
            have hb6 := hb5.out.trans (hb2.mono hb5.out.size)
            replace hb2 := Lib.hid hb2
            rcases F4.out with h0 | ⟨h0, h0'⟩
            · have hm0 : m1 = 0 := by rw [← hln.out, h0]; rfl
              have hm0' : ((m1 : Int) == 0) = true := by simp [hm0]
              replace hm0 := Lib.hid hm0; replace hb6 := Lib.hid hb6
              clear h0
              go_wp2_with (fail)
              exact ⟨⟨q + 1, by omega, by go_num, hb6.out⟩, by simp [intOf]; omega⟩
            · by_cases hm0 : m1 = 0
              · have hm0' : ((m1 : Int) == 0) = true := by simp [hm0]
                replace hm0 := Lib.hid hm0; replace hb6 := Lib.hid hb6
                clear h0 h0'
                go_wp2_with (fail)
                exact ⟨⟨q + 1, by omega, by go_num, hb6.out⟩, by simp [intOf]; omega⟩
              · obtain ⟨p, rfl⟩ : ∃ p, m1 = p + 1 := ⟨m1 - 1, by omega⟩
                have hm0' : (((p + 1 : Nat) : Int) == 0) = false := beq_false_of_ne (by omega)
                have hn := next_any k B1 (p + 1) d1 ls wr hO2.out.es (by omega)
                rw [next_eq, h0] at hn
                replace hb6 := Lib.hid hb6
                clear h0
                go_wp2_with (fail)
                refine hn.mono ?_
                rintro e w7 ⟨A7, n7, c7, rfl, o7⟩
                have hn7 : n7 = 0 := o7.len.symm
                subst hn7
                have hb7 := hb6.out.trans (o7.bel.mono hb6.out.size)
                have hcell7 := (o7.bel.cell (p := ⟨b, o + q, none⟩) (Nat.lt_of_lt_of_le hbl5 hb2.out.size)).trans hcell2
                have hO7 := hO2.out.keep o7.bel
                have hp16 : (p : Int) ≤ 16 := by omega
                have hp0 : (0 : Int) ≤ p := by omega
                have hpd : p ≤ d1 := by omega
                have hwr : IntKind.i64.wrap (p : Int) = (p : Int) := by simp [IntKind.wrap, IntKind.signed, IntKind.bits]; omega
                obtain ⟨X, hXs, hX⟩ := SL.low (m := p) (SL.keep hO7.es (Below.refl _ _).drew) (by omega) hd1
                have hw := whole_any k X p d1 _ w7.drew hX (by omega)
                rw [whole_eq, show ls.take p = ls.take (ls.length - 1) from by rw [hln.out]; rfl, h0'] at hw
                replace hb7 := Lib.hid hb7; replace hO7 := Lib.hid hO7; replace o7 := Lib.hid o7
                clear hn h0' hX
                go_wp2_with (fail)
                refine wp_region_any (by kernel_rfl) ?_
                try (change wpAny _ _ _ _ _ _ _ (World.drew _))
                refine wpAny_take (i := 0) (v := ?_) rfl (by kernel_rfl) (by kernel_rfl) (by kernel_rfl) (fun _ _ _ h => h) (Or.inl ⟨by rfl, by intro w; go_simp; first | done | with_reducible rfl⟩) ?_
                simp only [List.getElem_toArray, List.getElem_cons_succ, List.getElem_cons_zero, Act.put, List.setIfInBounds_toArray, List.set_cons_zero, List.set_cons_succ]
                refine wpAny_take (i := 1) (v := ?_) rfl (by kernel_rfl) (by kernel_rfl) (by kernel_rfl) (fun _ _ _ h => h) (Or.inl ⟨by rfl, by intro w; go_simp; first | done | with_reducible rfl⟩) ?_
                simp only [List.getElem_toArray, List.getElem_cons_succ, List.getElem_cons_zero, Act.put, List.setIfInBounds_toArray, List.set_cons_zero, List.set_cons_succ]
                refine wpAny_take (i := 2) (v := ?_) rfl (by kernel_rfl) (by kernel_rfl) (by kernel_rfl) (fun _ _ _ h => h) (Or.inl ⟨by rfl, by intro w; go_simp; first | done | with_reducible rfl⟩) ?_
                simp only [List.getElem_toArray, List.getElem_cons_succ, List.getElem_cons_zero, Act.put, List.setIfInBounds_toArray, List.set_cons_zero, List.set_cons_succ]
                refine wpAny_take (i := 3) (v := ?_) rfl (by kernel_rfl) (by kernel_rfl) (by kernel_rfl) (fun _ _ _ h => h) (Or.inl ⟨by rfl, by intro w; go_simp; first | done | with_reducible rfl⟩) ?_
                simp only [List.getElem_toArray, List.getElem_cons_succ, List.getElem_cons_zero, Act.put, List.setIfInBounds_toArray, List.set_cons_zero, List.set_cons_succ]
                refine wpAny_take (i := 5) (v := ?_) rfl (by kernel_rfl) (by kernel_rfl) (by kernel_rfl) (fun _ _ _ h => h) (Or.inl ⟨by rfl, by intro w; go_simp; first | done | with_reducible rfl⟩) ?_
                simp only [List.getElem_toArray, List.getElem_cons_succ, List.getElem_cons_zero, Act.put, List.setIfInBounds_toArray, List.set_cons_zero, List.set_cons_succ]
                refine wpAny_take (i := 6) (v := ?_) rfl (by kernel_rfl) (by kernel_rfl) (by kernel_rfl) (fun _ _ _ h => h) (Or.inl ⟨by rfl, by intro w; go_simp; first | done | with_reducible rfl⟩) ?_
                simp only [List.getElem_toArray, List.getElem_cons_succ, List.getElem_cons_zero, Act.put, List.setIfInBounds_toArray, List.set_cons_zero, List.set_cons_succ]
                refine wpAny_take (i := 7) (v := ?_) rfl (by kernel_rfl) (by kernel_rfl) (by kernel_rfl) (fun _ _ _ h => h) (Or.inl ⟨by rfl, by intro w; go_simp; first | done | with_reducible rfl⟩) ?_
                simp only [List.getElem_toArray, List.getElem_cons_succ, List.getElem_cons_zero, Act.put, List.setIfInBounds_toArray, List.set_cons_zero, List.set_cons_succ]
                refine wpAny_ready (rs := [4, 8]) (by kernel_rfl) (by simp) ?_
                refine AllReady.cons rfl (fun K hK => ?_) ?_
                · have hK' := hK; clear hK; have hK := hK'; clear hK'
                  go_simp
                  refine hK _ _ ?_
                  clear hK K
                  refine wpAny_ready (rs := [8]) (by kernel_rfl) (by simp) ?_
                  refine AllReady.cons rfl (fun K hK => ?_) ?_
                  · have hK' := hK; clear hK; have hK := hK'; clear hK'
                    go_simp
                    refine hK _ _ ?_
                    clear hK K
                    refine wpAny_take (i := 9) (v := ?_) rfl (by kernel_rfl) (by kernel_rfl) (by kernel_rfl) (fun _ _ _ h => h) (Or.inl ⟨by rfl, by intro w; go_simp; first | done | with_reducible rfl⟩) ?_
                    simp only [List.getElem_toArray, List.getElem_cons_succ, List.getElem_cons_zero, Act.put, List.setIfInBounds_toArray, List.set_cons_zero, List.set_cons_succ]
                    refine wpAny_take (i := 10) (v := ?_) rfl (by kernel_rfl) (by kernel_rfl) (by kernel_rfl) (fun _ _ _ h => h) (Or.inl ⟨by rfl, by intro w; go_simp; first | done | with_reducible rfl⟩) ?_
                    simp only [List.getElem_toArray, List.getElem_cons_succ, List.getElem_cons_zero, Act.put, List.setIfInBounds_toArray, List.set_cons_zero, List.set_cons_succ]
                    refine wpAny_take (i := 11) (v := ?_) rfl (by kernel_rfl) (by kernel_rfl) (by kernel_rfl) (fun _ _ _ h => h) (Or.inl ⟨by rfl, by intro w; go_simp; first | done | with_reducible rfl⟩) ?_
                    simp only [List.getElem_toArray, List.getElem_cons_succ, List.getElem_cons_zero, Act.put, List.setIfInBounds_toArray, List.set_cons_zero, List.set_cons_succ]
                    refine wpAny_ready (rs := [12]) (by kernel_rfl) (by simp) ?_
                    refine AllReady.cons rfl (fun K hK => ?_) ?_
                    · have hK' := hK; clear hK; have hK := hK'; clear hK'
                      go_simp
                      go_wp2_with (go_at_call 12; refine hw.mono ?_; rintro e w8 ⟨rfl, b8⟩; have hb8 := Lib.hid (hb7.out.trans (((Below.refl _ _).drew.trans b8).mono hb7.out.size)))
                      first | (refine hK _ _ ?_; clear hK K) | skip
                      refine wpAny_take (i := 13) (v := ?_) rfl (by kernel_rfl) (by kernel_rfl) (by kernel_rfl) (fun _ _ _ h => h) (Or.inl ⟨by rfl, by intro w; go_simp; first | done | with_reducible rfl⟩) ?_
                      simp only [List.getElem_toArray, List.getElem_cons_succ, List.getElem_cons_zero, Act.put, List.setIfInBounds_toArray, List.set_cons_zero, List.set_cons_succ]
                      refine wpAny_take (i := 14) (v := ?_) rfl (by kernel_rfl) (by kernel_rfl) (by kernel_rfl) (fun _ _ _ h => h) (Or.inl ⟨by rfl, by intro w; go_simp; first | done | with_reducible rfl⟩) ?_
                      simp only [List.getElem_toArray, List.getElem_cons_succ, List.getElem_cons_zero, Act.put, List.setIfInBounds_toArray, List.set_cons_zero, List.set_cons_succ]
                      refine wpAny_take (i := 15) (v := ?_) rfl (by kernel_rfl) (by kernel_rfl) (by kernel_rfl) (fun _ _ _ h => h) (Or.inl ⟨by rfl, by intro w; go_simp; first | done | with_reducible rfl⟩) ?_
                      simp only [List.getElem_toArray, List.getElem_cons_succ, List.getElem_cons_zero, Act.put, List.setIfInBounds_toArray, List.set_cons_zero, List.set_cons_succ]
                      refine wpAny_take (i := 16) (v := ?_) rfl (by kernel_rfl) (by kernel_rfl) (by kernel_rfl) (fun _ _ _ h => h) (Or.inl ⟨by rfl, by intro w; go_simp; first | done | with_reducible rfl⟩) ?_
                      simp only [List.getElem_toArray, List.getElem_cons_succ, List.getElem_cons_zero, Act.put, List.setIfInBounds_toArray, List.set_cons_zero, List.set_cons_succ]
                      refine wpAny_take (i := 17) (v := ?_) rfl (by kernel_rfl) (by kernel_rfl) (by kernel_rfl) (fun _ _ _ h => h) (Or.inl ⟨by rfl, by intro w; go_simp; first | done | with_reducible rfl⟩) ?_
                      simp only [List.getElem_toArray, List.getElem_cons_succ, List.getElem_cons_zero, Act.put, List.setIfInBounds_toArray, List.set_cons_zero, List.set_cons_succ]
                      refine wpAny_take (i := 18) (v := ?_) rfl (by kernel_rfl) (by kernel_rfl) (by kernel_rfl) (fun _ _ _ h => h) (Or.inl ⟨by rfl, by intro w; go_simp; first | done | with_reducible rfl⟩) ?_
                      simp only [List.getElem_toArray, List.getElem_cons_succ, List.getElem_cons_zero, Act.put, List.setIfInBounds_toArray, List.set_cons_zero, List.set_cons_succ]
                      refine wpAny_take (i := 19) (v := ?_) rfl (by kernel_rfl) (by kernel_rfl) (by kernel_rfl) (fun _ _ _ h => h) (Or.inl ⟨by rfl, by intro w; go_simp; first | done | with_reducible rfl⟩) ?_
                      simp only [List.getElem_toArray, List.getElem_cons_succ, List.getElem_cons_zero, Act.put, List.setIfInBounds_toArray, List.set_cons_zero, List.set_cons_succ]
                      refine wpAny_done (by kernel_rfl) ?_ _
                      go_wp2_with (fail)
                      exact ⟨⟨q + 1, by omega, by go_num, hb8.out⟩, by simp [intOf]; omega⟩
                    exact AllReady.nil
                  exact AllReady.nil
                refine AllReady.cons rfl (fun K hK => ?_) ?_
                · have hK' := hK; clear hK; have hK := hK'; clear hK'
                  go_simp
                  refine hK _ _ ?_
                  clear hK K
                  refine wpAny_take (i := 9) (v := ?_) rfl (by kernel_rfl) (by kernel_rfl) (by kernel_rfl) (fun _ _ _ h => h) (Or.inl ⟨by rfl, by intro w; go_simp; first | done | with_reducible rfl⟩) ?_
                  simp only [List.getElem_toArray, List.getElem_cons_succ, List.getElem_cons_zero, Act.put, List.setIfInBounds_toArray, List.set_cons_zero, List.set_cons_succ]
                  refine wpAny_take (i := 10) (v := ?_) rfl (by kernel_rfl) (by kernel_rfl) (by kernel_rfl) (fun _ _ _ h => h) (Or.inl ⟨by rfl, by intro w; go_simp; first | done | with_reducible rfl⟩) ?_
                  simp only [List.getElem_toArray, List.getElem_cons_succ, List.getElem_cons_zero, Act.put, List.setIfInBounds_toArray, List.set_cons_zero, List.set_cons_succ]
                  refine wpAny_ready (rs := [4]) (by kernel_rfl) (by simp) ?_
                  refine AllReady.cons rfl (fun K hK => ?_) ?_
                  · have hK' := hK; clear hK; have hK := hK'; clear hK'
                    go_simp
                    refine hK _ _ ?_
                    clear hK K
                    refine wpAny_take (i := 11) (v := ?_) rfl (by kernel_rfl) (by kernel_rfl) (by kernel_rfl) (fun _ _ _ h => h) (Or.inl ⟨by rfl, by intro w; go_simp; first | done | with_reducible rfl⟩) ?_
                    simp only [List.getElem_toArray, List.getElem_cons_succ, List.getElem_cons_zero, Act.put, List.setIfInBounds_toArray, List.set_cons_zero, List.set_cons_succ]
                    refine wpAny_ready (rs := [12]) (by kernel_rfl) (by simp) ?_
                    refine AllReady.cons rfl (fun K hK => ?_) ?_
                    · have hK' := hK; clear hK; have hK := hK'; clear hK'
                      go_simp
                      go_wp2_with (go_at_call 12; refine hw.mono ?_; rintro e w8 ⟨rfl, b8⟩; have hb8 := Lib.hid (hb7.out.trans (((Below.refl _ _).drew.trans b8).mono hb7.out.size)))
                      first | (refine hK _ _ ?_; clear hK K) | skip
                      refine wpAny_take (i := 13) (v := ?_) rfl (by kernel_rfl) (by kernel_rfl) (by kernel_rfl) (fun _ _ _ h => h) (Or.inl ⟨by rfl, by intro w; go_simp; first | done | with_reducible rfl⟩) ?_
                      simp only [List.getElem_toArray, List.getElem_cons_succ, List.getElem_cons_zero, Act.put, List.setIfInBounds_toArray, List.set_cons_zero, List.set_cons_succ]
                      refine wpAny_take (i := 14) (v := ?_) rfl (by kernel_rfl) (by kernel_rfl) (by kernel_rfl) (fun _ _ _ h => h) (Or.inl ⟨by rfl, by intro w; go_simp; first | done | with_reducible rfl⟩) ?_
                      simp only [List.getElem_toArray, List.getElem_cons_succ, List.getElem_cons_zero, Act.put, List.setIfInBounds_toArray, List.set_cons_zero, List.set_cons_succ]
                      refine wpAny_take (i := 15) (v := ?_) rfl (by kernel_rfl) (by kernel_rfl) (by kernel_rfl) (fun _ _ _ h => h) (Or.inl ⟨by rfl, by intro w; go_simp; first | done | with_reducible rfl⟩) ?_
                      simp only [List.getElem_toArray, List.getElem_cons_succ, List.getElem_cons_zero, Act.put, List.setIfInBounds_toArray, List.set_cons_zero, List.set_cons_succ]
                      refine wpAny_take (i := 16) (v := ?_) rfl (by kernel_rfl) (by kernel_rfl) (by kernel_rfl) (fun _ _ _ h => h) (Or.inl ⟨by rfl, by intro w; go_simp; first | done | with_reducible rfl⟩) ?_
                      simp only [List.getElem_toArray, List.getElem_cons_succ, List.getElem_cons_zero, Act.put, List.setIfInBounds_toArray, List.set_cons_zero, List.set_cons_succ]
                      refine wpAny_take (i := 17) (v := ?_) rfl (by kernel_rfl) (by kernel_rfl) (by kernel_rfl) (fun _ _ _ h => h) (Or.inl ⟨by rfl, by intro w; go_simp; first | done | with_reducible rfl⟩) ?_
                      simp only [List.getElem_toArray, List.getElem_cons_succ, List.getElem_cons_zero, Act.put, List.setIfInBounds_toArray, List.set_cons_zero, List.set_cons_succ]
                      refine wpAny_take (i := 18) (v := ?_) rfl (by kernel_rfl) (by kernel_rfl) (by kernel_rfl) (fun _ _ _ h => h) (Or.inl ⟨by rfl, by intro w; go_simp; first | done | with_reducible rfl⟩) ?_
                      simp only [List.getElem_toArray, List.getElem_cons_succ, List.getElem_cons_zero, Act.put, List.setIfInBounds_toArray, List.set_cons_zero, List.set_cons_succ]
                      refine wpAny_take (i := 19) (v := ?_) rfl (by kernel_rfl) (by kernel_rfl) (by kernel_rfl) (fun _ _ _ h => h) (Or.inl ⟨by rfl, by intro w; go_simp; first | done | with_reducible rfl⟩) ?_
                      simp only [List.getElem_toArray, List.getElem_cons_succ, List.getElem_cons_zero, Act.put, List.setIfInBounds_toArray, List.set_cons_zero, List.set_cons_succ]
                      refine wpAny_done (by kernel_rfl) ?_ _
                      go_wp2_with (fail)
                      exact ⟨⟨q + 1, by omega, by go_num, hb8.out⟩, by simp [intOf]; omega⟩
                    exact AllReady.nil
                  exact AllReady.nil
                exact AllReady.nil
      · rw [if_neg (by omega)] at hC
        have i1 : ¬ (j : Int) ≤ k := by omega
        have i1' : decide ((j : Int) ≤ (k : Int)) = false := by simp; omega
        have i2 : ((j : Int) == (k : Int) + 1) = true := by simp; omega
        have i3 : ((m1 : Int) != 2 * (k : Int)) = false := by simp; omega
        replace h1 := Lib.hid h1; replace h2 := Lib.hid h2
        go_wp2_with (fail)
        refine hC.mono ?_
        rintro e w5 ⟨rfl, b5⟩
        have hcell5 := (b5.cell (p := ⟨b, o + j, none⟩) hbl).trans hcell
        have hbl5 := Nat.lt_of_lt_of_le hbl b5.size
        have hb5 := hb.out.trans (b5.mono hb.out.size)
        have hO5 := Lib.hid (hO.out.keep b5)
        replace hb5 := Lib.hid hb5
        clear hC b5 hcell hO
        go_wp2_with (fail)
        go_loopw [10] (fun i wr => ∃ q : Nat, q ≤ j ∧ i = .int .i64 q ∧ Below w5.heap.size w5 wr) (fun i _ => j - (intOf i).toNat)
        case atStart => exact ⟨0, by omega, rfl, Below.refl _ _⟩
        case round =>
          obtain ⟨q, hq2, rfl, hb2⟩ := hrel
          have hcell2 := (hb2.cell (p := ⟨b, o + j, none⟩) hbl5).trans hcell5
          have hO2 := Lib.hid (hO5.out.keep hb2)
          by_cases hlt2 : q < j
          · obtain ⟨b', o', B2, m2, d2, ls2, hAe, hbl2, hcell3, hls3, hP⟩ := (hA.out.keep (hb5.out.trans (hb2.mono hb5.out.size))).at_ (i := q) (by omega)
            injection hAe with hAe
            injection hAe with hA1 hA2
            subst hA1 hA2
            have hne : ¬ ls = ls2 := fun e => by
              have h3 := F3.out q hlt2
              rw [← hgl.out q, hls3, e] at h3
              exact h3 rfl
            have hl2 : m2 ≤ 16 := by
              have := hgl.out q
              rw [hls3] at this
              obtain ⟨y, hy, he⟩ := Option.map_eq_some_iff.1 this.symm
              have h4 := seqs_len (List.mem_of_getElem? hy)
              rw [he, hP.len] at h4
              omega
            have hs := same_any B1 B2 m1 d1 m2 d2 ls ls2 wr.drew (SL.keep hO2.out.es (Below.refl _ _).drew) (SL.keep hP.es (Below.refl _ _).drew) (by omega) (by omega)
            rw [show decide (ls = ls2) = false from by simp [hne]] at hs
            have q0 : (0 : Int) ≤ q := by omega
            have q1 : (q : Int) < ((k + 2 : Nat) : Int) := by omega
            have q2 : (q : Int) < (k : Int) + 2 := by omega
            replace hb2 := Lib.hid hb2; replace hP := Lib.hid hP
            clear hls3 hne
            go_wp2_with (fail)
            refine wp_region_any (by kernel_rfl) ?_
            try (change wpAny _ _ _ _ _ _ _ (World.drew _))
            refine wpAny_take (i := 0) (v := ?_) rfl (by kernel_rfl) (by kernel_rfl) (by kernel_rfl) (fun _ _ _ h => h) (Or.inl ⟨by rfl, by intro w; go_simp; first | done | with_reducible rfl⟩) ?_
            simp only [List.getElem_toArray, List.getElem_cons_succ, List.getElem_cons_zero, Act.put, List.setIfInBounds_toArray, List.set_cons_zero, List.set_cons_succ]
            refine wpAny_take (i := 1) (v := ?_) rfl (by kernel_rfl) (by kernel_rfl) (by kernel_rfl) (fun _ _ _ h => h) (Or.inl ⟨by rfl, by intro w; go_simp; first | done | with_reducible rfl⟩) ?_
            simp only [List.getElem_toArray, List.getElem_cons_succ, List.getElem_cons_zero, Act.put, List.setIfInBounds_toArray, List.set_cons_zero, List.set_cons_succ]
            refine wpAny_take (i := 2) (v := ?_) rfl (by kernel_rfl) (by kernel_rfl) (by kernel_rfl) (fun _ _ _ h => h) (Or.inl ⟨by rfl, by intro w; go_simp; first | done | with_reducible rfl⟩) ?_
            simp only [List.getElem_toArray, List.getElem_cons_succ, List.getElem_cons_zero, Act.put, List.setIfInBounds_toArray, List.set_cons_zero, List.set_cons_succ]
            refine wpAny_take (i := 4) (v := ?_) rfl (by kernel_rfl) (by kernel_rfl) (by kernel_rfl) (fun _ _ _ h => h) (Or.inl ⟨by rfl, by intro w; go_simp; first | done | with_reducible rfl⟩) ?_
            simp only [List.getElem_toArray, List.getElem_cons_succ, List.getElem_cons_zero, Act.put, List.setIfInBounds_toArray, List.set_cons_zero, List.set_cons_succ]
            refine wpAny_take (i := 5) (v := ?_) rfl (by kernel_rfl) (by kernel_rfl) (by kernel_rfl) (fun _ _ _ h => h) (Or.inl ⟨by rfl, by intro w; go_simp; first | done | with_reducible rfl⟩) ?_
            simp only [List.getElem_toArray, List.getElem_cons_succ, List.getElem_cons_zero, Act.put, List.setIfInBounds_toArray, List.set_cons_zero, List.set_cons_succ]
            refine wpAny_take (i := 6) (v := ?_) rfl (by kernel_rfl) (by kernel_rfl) (by kernel_rfl) (fun _ _ _ h => h) (Or.inl ⟨by rfl, by intro w; go_simp; first | done | with_reducible rfl⟩) ?_
            simp only [List.getElem_toArray, List.getElem_cons_succ, List.getElem_cons_zero, Act.put, List.setIfInBounds_toArray, List.set_cons_zero, List.set_cons_succ]
            refine wpAny_ready (rs := [3, 7]) (by kernel_rfl) (by simp) ?_
            refine AllReady.cons rfl (fun K hK => ?_) ?_
            · have hK' := hK; clear hK; have hK := hK'; clear hK'
              go_simp
              refine hK _ _ ?_
              clear hK K
              refine wpAny_ready (rs := [7]) (by kernel_rfl) (by simp) ?_
              refine AllReady.cons rfl (fun K hK => ?_) ?_
              · have hK' := hK; clear hK; have hK := hK'; clear hK'
                go_simp
                refine hK _ _ ?_
                clear hK K
                refine wpAny_ready (rs := [8]) (by kernel_rfl) (by simp) ?_
                refine AllReady.cons rfl (fun K hK => ?_) ?_
                · have hK' := hK; clear hK; have hK := hK'; clear hK'
                  go_simp
                  go_wp2_with (go_at_call 16; refine hs.mono ?_; rintro e w6 ⟨rfl, b6⟩; have hb6 := Lib.hid (hb2.out.trans (((Below.refl _ _).drew.trans b6).mono hb2.out.size)))
                  first | (refine hK _ _ ?_; clear hK K) | skip
                  refine wpAny_done (by kernel_rfl) ?_ _
                  go_wp2_with (fail)
                  exact ⟨⟨q + 1, by omega, by go_num, hb6.out⟩, by simp [intOf]; omega⟩
                exact AllReady.nil
              exact AllReady.nil
            refine AllReady.cons rfl (fun K hK => ?_) ?_
            · have hK' := hK; clear hK; have hK := hK'; clear hK'
              go_simp
              refine hK _ _ ?_
              clear hK K
              refine wpAny_ready (rs := [3]) (by kernel_rfl) (by simp) ?_
              refine AllReady.cons rfl (fun K hK => ?_) ?_
              · have hK' := hK; clear hK; have hK := hK'; clear hK'
                go_simp
                refine hK _ _ ?_
                clear hK K
                refine wpAny_ready (rs := [8]) (by kernel_rfl) (by simp) ?_
                refine AllReady.cons rfl (fun K hK => ?_) ?_
                · have hK' := hK; clear hK; have hK := hK'; clear hK'
                  go_simp
                  go_wp2_with (go_at_call 16; refine hs.mono ?_; rintro e w6 ⟨rfl, b6⟩; have hb6 := Lib.hid (hb2.out.trans (((Below.refl _ _).drew.trans b6).mono hb2.out.size)))
                  first | (refine hK _ _ ?_; clear hK K) | skip
                  refine wpAny_done (by kernel_rfl) ?_ _
                  go_wp2_with (fail)
                  exact ⟨⟨q + 1, by omega, by go_num, hb6.out⟩, by simp [intOf]; omega⟩
                exact AllReady.nil
              exact AllReady.nil
            exact AllReady.nil
          · obtain rfl : q = j := by omega
            have hb6 := hb5.out.trans (hb2.mono hb5.out.size)
            replace hb2 := Lib.hid hb2
            rcases F4.out with h0 | ⟨h0, h0'⟩
            · have hm0 : m1 = 0 := by rw [← hln.out, h0]; rfl
              have hm0' : ((m1 : Int) == 0) = true := by simp [hm0]
              replace hm0 := Lib.hid hm0; replace hb6 := Lib.hid hb6
              clear h0
              go_wp2_with (fail)
              exact ⟨⟨q + 1, by omega, by go_num, hb6.out⟩, by simp [intOf]; omega⟩
            · by_cases hm0 : m1 = 0
              · have hm0' : ((m1 : Int) == 0) = true := by simp [hm0]
                replace hm0 := Lib.hid hm0; replace hb6 := Lib.hid hb6
                clear h0 h0'
                go_wp2_with (fail)
                exact ⟨⟨q + 1, by omega, by go_num, hb6.out⟩, by simp [intOf]; omega⟩
              · obtain ⟨p, rfl⟩ : ∃ p, m1 = p + 1 := ⟨m1 - 1, by omega⟩
                have hm0' : (((p + 1 : Nat) : Int) == 0) = false := beq_false_of_ne (by omega)
                have hn := next_any k B1 (p + 1) d1 ls wr hO2.out.es (by omega)
                rw [next_eq, h0] at hn
                replace hb6 := Lib.hid hb6
                clear h0
                go_wp2_with (fail)
                refine hn.mono ?_
                rintro e w7 ⟨A7, n7, c7, rfl, o7⟩
                have hn7 : n7 = 0 := o7.len.symm
                subst hn7
                have hb7 := hb6.out.trans (o7.bel.mono hb6.out.size)
                have hcell7 := (o7.bel.cell (p := ⟨b, o + q, none⟩) (Nat.lt_of_lt_of_le hbl5 hb2.out.size)).trans hcell2
                have hO7 := hO2.out.keep o7.bel
                have hp16 : (p : Int) ≤ 16 := by omega
                have hp0 : (0 : Int) ≤ p := by omega
                have hpd : p ≤ d1 := by omega
                have hwr : IntKind.i64.wrap (p : Int) = (p : Int) := by simp [IntKind.wrap, IntKind.signed, IntKind.bits]; omega
                obtain ⟨X, hXs, hX⟩ := SL.low (m := p) (SL.keep hO7.es (Below.refl _ _).drew) (by omega) hd1
                have hw := whole_any k X p d1 _ w7.drew hX (by omega)
                rw [whole_eq, show ls.take p = ls.take (ls.length - 1) from by rw [hln.out]; rfl, h0'] at hw
                replace hb7 := Lib.hid hb7; replace hO7 := Lib.hid hO7; replace o7 := Lib.hid o7
                clear hn h0' hX
                go_wp2_with (fail)
                refine wp_region_any (by kernel_rfl) ?_
                try (change wpAny _ _ _ _ _ _ _ (World.drew _))
                refine wpAny_take (i := 0) (v := ?_) rfl (by kernel_rfl) (by kernel_rfl) (by kernel_rfl) (fun _ _ _ h => h) (Or.inl ⟨by rfl, by intro w; go_simp; first | done | with_reducible rfl⟩) ?_
                simp only [List.getElem_toArray, List.getElem_cons_succ, List.getElem_cons_zero, Act.put, List.setIfInBounds_toArray, List.set_cons_zero, List.set_cons_succ]
                refine wpAny_take (i := 1) (v := ?_) rfl (by kernel_rfl) (by kernel_rfl) (by kernel_rfl) (fun _ _ _ h => h) (Or.inl ⟨by rfl, by intro w; go_simp; first | done | with_reducible rfl⟩) ?_
                simp only [List.getElem_toArray, List.getElem_cons_succ, List.getElem_cons_zero, Act.put, List.setIfInBounds_toArray, List.set_cons_zero, List.set_cons_succ]
                refine wpAny_take (i := 2) (v := ?_) rfl (by kernel_rfl) (by kernel_rfl) (by kernel_rfl) (fun _ _ _ h => h) (Or.inl ⟨by rfl, by intro w; go_simp; first | done | with_reducible rfl⟩) ?_
                simp only [List.getElem_toArray, List.getElem_cons_succ, List.getElem_cons_zero, Act.put, List.setIfInBounds_toArray, List.set_cons_zero, List.set_cons_succ]
                refine wpAny_take (i := 3) (v := ?_) rfl (by kernel_rfl) (by kernel_rfl) (by kernel_rfl) (fun _ _ _ h => h) (Or.inl ⟨by rfl, by intro w; go_simp; first | done | with_reducible rfl⟩) ?_
                simp only [List.getElem_toArray, List.getElem_cons_succ, List.getElem_cons_zero, Act.put, List.setIfInBounds_toArray, List.set_cons_zero, List.set_cons_succ]
                refine wpAny_take (i := 5) (v := ?_) rfl (by kernel_rfl) (by kernel_rfl) (by kernel_rfl) (fun _ _ _ h => h) (Or.inl ⟨by rfl, by intro w; go_simp; first | done | with_reducible rfl⟩) ?_
                simp only [List.getElem_toArray, List.getElem_cons_succ, List.getElem_cons_zero, Act.put, List.setIfInBounds_toArray, List.set_cons_zero, List.set_cons_succ]
                refine wpAny_take (i := 6) (v := ?_) rfl (by kernel_rfl) (by kernel_rfl) (by kernel_rfl) (fun _ _ _ h => h) (Or.inl ⟨by rfl, by intro w; go_simp; first | done | with_reducible rfl⟩) ?_
                simp only [List.getElem_toArray, List.getElem_cons_succ, List.getElem_cons_zero, Act.put, List.setIfInBounds_toArray, List.set_cons_zero, List.set_cons_succ]
                refine wpAny_take (i := 7) (v := ?_) rfl (by kernel_rfl) (by kernel_rfl) (by kernel_rfl) (fun _ _ _ h => h) (Or.inl ⟨by rfl, by intro w; go_simp; first | done | with_reducible rfl⟩) ?_
                simp only [List.getElem_toArray, List.getElem_cons_succ, List.getElem_cons_zero, Act.put, List.setIfInBounds_toArray, List.set_cons_zero, List.set_cons_succ]
                refine wpAny_ready (rs := [4, 8]) (by kernel_rfl) (by simp) ?_
                refine AllReady.cons rfl (fun K hK => ?_) ?_
                · have hK' := hK; clear hK; have hK := hK'; clear hK'
                  go_simp
                  refine hK _ _ ?_
                  clear hK K
                  refine wpAny_ready (rs := [8]) (by kernel_rfl) (by simp) ?_
                  refine AllReady.cons rfl (fun K hK => ?_) ?_
                  · have hK' := hK; clear hK; have hK := hK'; clear hK'
                    go_simp
                    refine hK _ _ ?_
                    clear hK K
                    refine wpAny_take (i := 9) (v := ?_) rfl (by kernel_rfl) (by kernel_rfl) (by kernel_rfl) (fun _ _ _ h => h) (Or.inl ⟨by rfl, by intro w; go_simp; first | done | with_reducible rfl⟩) ?_
                    simp only [List.getElem_toArray, List.getElem_cons_succ, List.getElem_cons_zero, Act.put, List.setIfInBounds_toArray, List.set_cons_zero, List.set_cons_succ]
                    refine wpAny_take (i := 10) (v := ?_) rfl (by kernel_rfl) (by kernel_rfl) (by kernel_rfl) (fun _ _ _ h => h) (Or.inl ⟨by rfl, by intro w; go_simp; first | done | with_reducible rfl⟩) ?_
                    simp only [List.getElem_toArray, List.getElem_cons_succ, List.getElem_cons_zero, Act.put, List.setIfInBounds_toArray, List.set_cons_zero, List.set_cons_succ]
                    refine wpAny_take (i := 11) (v := ?_) rfl (by kernel_rfl) (by kernel_rfl) (by kernel_rfl) (fun _ _ _ h => h) (Or.inl ⟨by rfl, by intro w; go_simp; first | done | with_reducible rfl⟩) ?_
                    simp only [List.getElem_toArray, List.getElem_cons_succ, List.getElem_cons_zero, Act.put, List.setIfInBounds_toArray, List.set_cons_zero, List.set_cons_succ]
                    refine wpAny_ready (rs := [12]) (by kernel_rfl) (by simp) ?_
                    refine AllReady.cons rfl (fun K hK => ?_) ?_
                    · have hK' := hK; clear hK; have hK := hK'; clear hK'
                      go_simp
                      go_wp2_with (go_at_call 12; refine hw.mono ?_; rintro e w8 ⟨rfl, b8⟩; have hb8 := Lib.hid (hb7.out.trans (((Below.refl _ _).drew.trans b8).mono hb7.out.size)))
                      first | (refine hK _ _ ?_; clear hK K) | skip
                      refine wpAny_take (i := 13) (v := ?_) rfl (by kernel_rfl) (by kernel_rfl) (by kernel_rfl) (fun _ _ _ h => h) (Or.inl ⟨by rfl, by intro w; go_simp; first | done | with_reducible rfl⟩) ?_
                      simp only [List.getElem_toArray, List.getElem_cons_succ, List.getElem_cons_zero, Act.put, List.setIfInBounds_toArray, List.set_cons_zero, List.set_cons_succ]
                      refine wpAny_take (i := 14) (v := ?_) rfl (by kernel_rfl) (by kernel_rfl) (by kernel_rfl) (fun _ _ _ h => h) (Or.inl ⟨by rfl, by intro w; go_simp; first | done | with_reducible rfl⟩) ?_
                      simp only [List.getElem_toArray, List.getElem_cons_succ, List.getElem_cons_zero, Act.put, List.setIfInBounds_toArray, List.set_cons_zero, List.set_cons_succ]
                      refine wpAny_take (i := 15) (v := ?_) rfl (by kernel_rfl) (by kernel_rfl) (by kernel_rfl) (fun _ _ _ h => h) (Or.inl ⟨by rfl, by intro w; go_simp; first | done | with_reducible rfl⟩) ?_
                      simp only [List.getElem_toArray, List.getElem_cons_succ, List.getElem_cons_zero, Act.put, List.setIfInBounds_toArray, List.set_cons_zero, List.set_cons_succ]
                      refine wpAny_take (i := 16) (v := ?_) rfl (by kernel_rfl) (by kernel_rfl) (by kernel_rfl) (fun _ _ _ h => h) (Or.inl ⟨by rfl, by intro w; go_simp; first | done | with_reducible rfl⟩) ?_
                      simp only [List.getElem_toArray, List.getElem_cons_succ, List.getElem_cons_zero, Act.put, List.setIfInBounds_toArray, List.set_cons_zero, List.set_cons_succ]
                      refine wpAny_take (i := 17) (v := ?_) rfl (by kernel_rfl) (by kernel_rfl) (by kernel_rfl) (fun _ _ _ h => h) (Or.inl ⟨by rfl, by intro w; go_simp; first | done | with_reducible rfl⟩) ?_
                      simp only [List.getElem_toArray, List.getElem_cons_succ, List.getElem_cons_zero, Act.put, List.setIfInBounds_toArray, List.set_cons_zero, List.set_cons_succ]
                      refine wpAny_take (i := 18) (v := ?_) rfl (by kernel_rfl) (by kernel_rfl) (by kernel_rfl) (fun _ _ _ h => h) (Or.inl ⟨by rfl, by intro w; go_simp; first | done | with_reducible rfl⟩) ?_
                      simp only [List.getElem_toArray, List.getElem_cons_succ, List.getElem_cons_zero, Act.put, List.setIfInBounds_toArray, List.set_cons_zero, List.set_cons_succ]
                      refine wpAny_take (i := 19) (v := ?_) rfl (by kernel_rfl) (by kernel_rfl) (by kernel_rfl) (fun _ _ _ h => h) (Or.inl ⟨by rfl, by intro w; go_simp; first | done | with_reducible rfl⟩) ?_
                      simp only [List.getElem_toArray, List.getElem_cons_succ, List.getElem_cons_zero, Act.put, List.setIfInBounds_toArray, List.set_cons_zero, List.set_cons_succ]
                      refine wpAny_done (by kernel_rfl) ?_ _
                      go_wp2_with (fail)
                      exact ⟨⟨q + 1, by omega, by go_num, hb8.out⟩, by simp [intOf]; omega⟩
                    exact AllReady.nil
                  exact AllReady.nil
                refine AllReady.cons rfl (fun K hK => ?_) ?_
                · have hK' := hK; clear hK; have hK := hK'; clear hK'
                  go_simp
                  refine hK _ _ ?_
                  clear hK K
                  refine wpAny_take (i := 9) (v := ?_) rfl (by kernel_rfl) (by kernel_rfl) (by kernel_rfl) (fun _ _ _ h => h) (Or.inl ⟨by rfl, by intro w; go_simp; first | done | with_reducible rfl⟩) ?_
                  simp only [List.getElem_toArray, List.getElem_cons_succ, List.getElem_cons_zero, Act.put, List.setIfInBounds_toArray, List.set_cons_zero, List.set_cons_succ]
                  refine wpAny_take (i := 10) (v := ?_) rfl (by kernel_rfl) (by kernel_rfl) (by kernel_rfl) (fun _ _ _ h => h) (Or.inl ⟨by rfl, by intro w; go_simp; first | done | with_reducible rfl⟩) ?_
                  simp only [List.getElem_toArray, List.getElem_cons_succ, List.getElem_cons_zero, Act.put, List.setIfInBounds_toArray, List.set_cons_zero, List.set_cons_succ]
                  refine wpAny_ready (rs := [4]) (by kernel_rfl) (by simp) ?_
                  refine AllReady.cons rfl (fun K hK => ?_) ?_
                  · have hK' := hK; clear hK; have hK := hK'; clear hK'
                    go_simp
                    refine hK _ _ ?_
                    clear hK K
                    refine wpAny_take (i := 11) (v := ?_) rfl (by kernel_rfl) (by kernel_rfl) (by kernel_rfl) (fun _ _ _ h => h) (Or.inl ⟨by rfl, by intro w; go_simp; first | done | with_reducible rfl⟩) ?_
                    simp only [List.getElem_toArray, List.getElem_cons_succ, List.getElem_cons_zero, Act.put, List.setIfInBounds_toArray, List.set_cons_zero, List.set_cons_succ]
                    refine wpAny_ready (rs := [12]) (by kernel_rfl) (by simp) ?_
                    refine AllReady.cons rfl (fun K hK => ?_) ?_
                    · have hK' := hK; clear hK; have hK := hK'; clear hK'
                      go_simp
                      go_wp2_with (go_at_call 12; refine hw.mono ?_; rintro e w8 ⟨rfl, b8⟩; have hb8 := Lib.hid (hb7.out.trans (((Below.refl _ _).drew.trans b8).mono hb7.out.size)))
                      first | (refine hK _ _ ?_; clear hK K) | skip
                      refine wpAny_take (i := 13) (v := ?_) rfl (by kernel_rfl) (by kernel_rfl) (by kernel_rfl) (fun _ _ _ h => h) (Or.inl ⟨by rfl, by intro w; go_simp; first | done | with_reducible rfl⟩) ?_
                      simp only [List.getElem_toArray, List.getElem_cons_succ, List.getElem_cons_zero, Act.put, List.setIfInBounds_toArray, List.set_cons_zero, List.set_cons_succ]
                      refine wpAny_take (i := 14) (v := ?_) rfl (by kernel_rfl) (by kernel_rfl) (by kernel_rfl) (fun _ _ _ h => h) (Or.inl ⟨by rfl, by intro w; go_simp; first | done | with_reducible rfl⟩) ?_
                      simp only [List.getElem_toArray, List.getElem_cons_succ, List.getElem_cons_zero, Act.put, List.setIfInBounds_toArray, List.set_cons_zero, List.set_cons_succ]
                      refine wpAny_take (i := 15) (v := ?_) rfl (by kernel_rfl) (by kernel_rfl) (by kernel_rfl) (fun _ _ _ h => h) (Or.inl ⟨by rfl, by intro w; go_simp; first | done | with_reducible rfl⟩) ?_
                      simp only [List.getElem_toArray, List.getElem_cons_succ, List.getElem_cons_zero, Act.put, List.setIfInBounds_toArray, List.set_cons_zero, List.set_cons_succ]
                      refine wpAny_take (i := 16) (v := ?_) rfl (by kernel_rfl) (by kernel_rfl) (by kernel_rfl) (fun _ _ _ h => h) (Or.inl ⟨by rfl, by intro w; go_simp; first | done | with_reducible rfl⟩) ?_
                      simp only [List.getElem_toArray, List.getElem_cons_succ, List.getElem_cons_zero, Act.put, List.setIfInBounds_toArray, List.set_cons_zero, List.set_cons_succ]
                      refine wpAny_take (i := 17) (v := ?_) rfl (by kernel_rfl) (by kernel_rfl) (by kernel_rfl) (fun _ _ _ h => h) (Or.inl ⟨by rfl, by intro w; go_simp; first | done | with_reducible rfl⟩) ?_
                      simp only [List.getElem_toArray, List.getElem_cons_succ, List.getElem_cons_zero, Act.put, List.setIfInBounds_toArray, List.set_cons_zero, List.set_cons_succ]
                      refine wpAny_take (i := 18) (v := ?_) rfl (by kernel_rfl) (by kernel_rfl) (by kernel_rfl) (fun _ _ _ h => h) (Or.inl ⟨by rfl, by intro w; go_simp; first | done | with_reducible rfl⟩) ?_
                      simp only [List.getElem_toArray, List.getElem_cons_succ, List.getElem_cons_zero, Act.put, List.setIfInBounds_toArray, List.set_cons_zero, List.set_cons_succ]
                      refine wpAny_take (i := 19) (v := ?_) rfl (by kernel_rfl) (by kernel_rfl) (by kernel_rfl) (fun _ _ _ h => h) (Or.inl ⟨by rfl, by intro w; go_simp; first | done | with_reducible rfl⟩) ?_
                      simp only [List.getElem_toArray, List.getElem_cons_succ, List.getElem_cons_zero, Act.put, List.setIfInBounds_toArray, List.set_cons_zero, List.set_cons_succ]
                      refine wpAny_done (by kernel_rfl) ?_ _
                      go_wp2_with (fail)
                      exact ⟨⟨q + 1, by omega, by go_num, hb8.out⟩, by simp [intOf]; omega⟩
                    exact AllReady.nil
                  exact AllReady.nil
                exact AllReady.nil
    · obtain rfl : j = k + 2 := by omega
      have hb' := Lib.hid (hA.out.bel.trans (hb.mono hA.out.bel.size))
      replace hb := Lib.hid hb
      go_wp2_with (fail)
      refine (works_any W1).mono ?_
      rintro e w3 ⟨rfl, b3⟩
      have hb3 := Lib.hid (hb'.out.trans (b3.mono hb'.out.size))
      clear b3 hb'
      go_wp2_with (fail)
      go_ret
      exact ⟨rfl, hb3.out⟩
end Go.Proofs.Ythmkfbabacehnaa
