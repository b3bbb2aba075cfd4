/- EffectsAdd's walk. -/
import Derived.Test.YthmkfbabacehnaaDoorShortD
import Derived.Test.YthmkfbabacehnaaDoorOpenDf
import Derived.Test.YthmkfbabacehnaaDoorWorks
import Derived.Test.YthmkfbabacehnaaDoorRHeldD
import Derived.Test.YthmkfbabacehnaaDoorCntP
import Derived.Deep.CutBlock
import Derived.Deep.DeepCutAuto
namespace Go.Proofs.YthmkfbabacehnaaDoor
open Go.RowKit Go.Shelf
set_option linter.unusedSimpArgs false
set_option linter.unusedVariables false
set_option linter.unusedSectionVars false
set_option maxRecDepth 10000
attribute [local go_sem ↓] hideAppend
theorem cat2 {w W : World} {A B : Option Addr} {n c m d : Nat} {l r : List Ef} (h : OwnE w A n c l W) (h2 : ES W B m r) (hn : n ≤ 100000) (hm : m ≤ 100000) :
    ∃ A' c' W', (appSem #[25, 25] 25 #[.slice A n c, .slice B m d]).run Tryd.prog W = .ok (.slice A' (n + m) c') W' ∧ OwnE w A' (n + m) c' (l ++ r) W' ∧ W.grownBy W' (rowOf A) := by
  obtain ⟨A', c', w1, hrun, hcap, hown, hgr, hat⟩ := append_sl elemE encE_len encE_one (ty := 25) (d := d) h.own h.bel.size h2 (by omega) (by omega)
  exact ⟨A', c', w1, hrun, ⟨h.bel.trans (below_of_grown hgr h.bel.size fun g hg => (own_row h.own g hg).1), hown, by simp [h.len, h2.1], hcap⟩, hgr⟩
theorem emp_new {w W : World} (hb : Below w.heap.size w W) : OwnE w (some ⟨W.heap.size, 0, none⟩) 0 0 [] (W.alloc (.cells #[] 56)) := by
  have h0 : OwnE W (some ⟨W.heap.size, 0, none⟩) 0 0 [] (W.alloc (.cells #[] 56)) := ⟨(Below.refl W.heap.size W).alloc (Nat.le_refl _) _, ⟨rfl, .inr ⟨W.heap.size, 0, #[], rfl, Nat.le_refl _, hpNew W _, Nat.le_refl _, Nat.zero_le _, rfl, rfl⟩⟩, rfl, Nat.le_refl _⟩
  exact h0.re hb
set_option maxHeartbeats 16000000 in
theorem add_walk (nm : ByteArray) (r dl : Int) (A : Option Addr) (n c : Nat) (ss : List St) (B : Option Addr) (m dl0 : Nat) (l : List Ef) (B2 : Option Addr) (m2 dl2 : Nat) (l2 : List Ef) (key : ByteArray) (w : World) (hD : IsDef w nm A n c ss) (hE : ES w B m l) (hE2 : ES w B2 m2 l2) (hL : LdA w) :
    Calls Tryd.prog 3 #[.agg #[.string nm, .int .i64 r, .int .i64 dl, .slice A n c], .slice B m dl0, .slice B2 m2 dl2, .string key] w fun e w' => e = .returned (.bool true) ∧ Below w.heap.size w w' := by
  have kb := (Below.refl w.heap.size w).alloc (Nat.le_refl _) (.cells #[.string nm, .int .i64 r, .int .i64 dl, .slice A n c] 24)
  have hnew := hpNew w (.cells #[.string nm, .int .i64 r, .int .i64 dl, .slice A n c] 24)
  have hs := short_any nm r dl A n c ss (w.alloc (.cells #[.string nm, .int .i64 r, .int .i64 dl, .slice A n c] 24)) (SL.keep hD.ss kb)
  cases hsB : shortB nm ss with
  | false =>
    rw [hsB] at hs
    clear hsB
    replace hD := Lib.hid hD; replace hE := Lib.hid hE; replace hE2 := Lib.hid hE2; replace kb := Lib.hid kb; replace hnew := Lib.hid hnew; replace hL := Lib.hid hL
    go_enter Tryd.func3, Tryd.ntmps3
    go_wp2_with (fail)
    refine (hs).mono ?_
    rintro e w1 ⟨rfl, b1⟩
    have hh1 := (b1.block _ (by simp)).trans hnew.out
    have x0 := blkC hh1 0
    have x1 := blkC hh1 1
    have x2 := blkC hh1 2
    have x3 := blkC hh1 3
    simp only [List.getElem?_toArray, List.getElem?_cons_zero, List.getElem?_cons_succ] at x0 x1 x2 x3
    have hb1 := Lib.hid (kb.out.trans (b1.mono kb.out.size))
    replace hh1 := Lib.hid hh1
    clear b1
    clear x0 x1 x2 x3
    go_wp2_with (fail)
    refine (works_any _).mono ?_
    rintro e w9 ⟨rfl, b9⟩
    go_wp2_with (fail)
    go_ret
    exact ⟨rfl, hb1.out.trans (b9.mono hb1.out.size)⟩
  | true =>
    rw [hsB] at hs
    clear hsB
    by_cases ml : m ≤ 40
    · have m1i : ¬ (40 : Int) < m := by omega
      by_cases m2l : m2 ≤ 40
      · have m2i : ¬ (40 : Int) < m2 := by omega
        by_cases m4 : 40 < key.size
        · have m4i : (40 : Int) < key.size := by omega
          replace hD := Lib.hid hD; replace hE := Lib.hid hE; replace hE2 := Lib.hid hE2; replace kb := Lib.hid kb; replace hnew := Lib.hid hnew; replace hL := Lib.hid hL
          go_enter Tryd.func3, Tryd.ntmps3
          go_wp2_with (fail)
          refine (hs).mono ?_
          rintro e w1 ⟨rfl, b1⟩
          have hh1 := (b1.block _ (by simp)).trans hnew.out
          have x0 := blkC hh1 0
          have x1 := blkC hh1 1
          have x2 := blkC hh1 2
          have x3 := blkC hh1 3
          simp only [List.getElem?_toArray, List.getElem?_cons_zero, List.getElem?_cons_succ] at x0 x1 x2 x3
          have hb1 := Lib.hid (kb.out.trans (b1.mono kb.out.size))
          replace hh1 := Lib.hid hh1
          clear b1
          clear x0 x1 x2 x3
          go_wp2_with (fail)
          refine (works_any _).mono ?_
          rintro e w9 ⟨rfl, b9⟩
          go_wp2_with (fail)
          go_ret
          exact ⟨rfl, hb1.out.trans (b9.mono hb1.out.size)⟩
        · have m4i : ¬ (40 : Int) < key.size := by omega
          have hcm := Lib.hid (sumP_comm nm r dl ss l l2 key)
          have hva := sumP_val nm r dl ss l key
          have hvb := sumP_val nm r dl ss l2 key
          have hadd := fun q1 q2 => sum_add (nm := nm) (r := r) (dl := dl) (ss := ss) (l := l) (m := l2) (key := key) (by rw [hE.1]; exact ml) (by rw [hE2.1]; exact m2l) q1 q2
          replace hD := Lib.hid hD; replace hE := Lib.hid hE; replace hE2 := Lib.hid hE2; replace kb := Lib.hid kb; replace hnew := Lib.hid hnew; replace hL := Lib.hid hL
          obtain ⟨sv, hsv⟩ : ∃ sv, sv = (sumP nm r dl ss (l ++ l2) key).1 := ⟨_, rfl⟩
          obtain ⟨se, hse⟩ : ∃ se, se = (sumP nm r dl ss (l ++ l2) key).2 := ⟨_, rfl⟩
          replace hsv := Lib.hid hsv; replace hse := Lib.hid hse; replace hva := Lib.hid hva; replace hvb := Lib.hid hvb; replace hadd := Lib.hid hadd
          go_enter Tryd.func3, Tryd.ntmps3
          go_wp2_with (fail)
          refine (hs).mono ?_
          rintro e w1 ⟨rfl, b1⟩
          have hh1 := (b1.block _ (by simp)).trans hnew.out
          have x0 := blkC hh1 0
          have x1 := blkC hh1 1
          have x2 := blkC hh1 2
          have x3 := blkC hh1 3
          simp only [List.getElem?_toArray, List.getElem?_cons_zero, List.getElem?_cons_succ] at x0 x1 x2 x3
          have hb1 := Lib.hid (kb.out.trans (b1.mono kb.out.size))
          replace hh1 := Lib.hid hh1
          clear b1
          have c2 := sum_any nm r dl A n c ss B m dl0 l key w1 (hD.out.keep hb1.out).nm (hD.out.keep hb1.out).ss hD.out.n hD.out.cap hD.out.keys (SL.keep hE.out hb1.out) (by omega) (Ld.keep hL.out hb1.out)
          generalize hav : (sumP nm r dl ss l key).1 = av at c2
          generalize hae : (sumP nm r dl ss l key).2 = ae at c2
          replace hav := Lib.hid hav; replace hae := Lib.hid hae
          clear hs
          go_wp2_with (fail)
          refine (c2).mono ?_
          rintro e w2 ⟨rfl, b2⟩
          clear x0 x1 x2 x3
          have hh2 := (b2.block _ (blkX hh1.out)).trans hh1.out
          have x0 := blkC hh2 0
          have x1 := blkC hh2 1
          have x2 := blkC hh2 2
          have x3 := blkC hh2 3
          simp only [List.getElem?_toArray, List.getElem?_cons_zero, List.getElem?_cons_succ] at x0 x1 x2 x3
          have hb2 := Lib.hid (hb1.out.trans (b2.mono hb1.out.size))
          replace hh2 := Lib.hid hh2
          clear b2
          have c3 := sum_any nm r dl A n c ss B2 m2 dl2 l2 key w2 (hD.out.keep hb2.out).nm (hD.out.keep hb2.out).ss hD.out.n hD.out.cap hD.out.keys (SL.keep hE2.out hb2.out) (by omega) (Ld.keep hL.out hb2.out)
          generalize hbv : (sumP nm r dl ss l2 key).1 = bv at c3
          generalize hbe : (sumP nm r dl ss l2 key).2 = be at c3
          replace hbv := Lib.hid hbv; replace hbe := Lib.hid hbe
          clear c2
          go_wp2_with (fail)
          refine (c3).mono ?_
          rintro e w3 ⟨rfl, b3⟩
          clear x0 x1 x2 x3
          have hh3 := (b3.block _ (blkX hh2.out)).trans hh2.out
          have x0 := blkC hh3 0
          have x1 := blkC hh3 1
          have x2 := blkC hh3 2
          have x3 := blkC hh3 3
          simp only [List.getElem?_toArray, List.getElem?_cons_zero, List.getElem?_cons_succ] at x0 x1 x2 x3
          have hb3 := Lib.hid (hb2.out.trans (b3.mono hb2.out.size))
          replace hh3 := Lib.hid hh3
          clear b3
          clear x0 x1 x2 x3
          clear c3 hh1 hb1 hh2 hb2
          go_upto_region 5 with (fail)
          go_cut [13, 14] from 63 (fun a b wx => a = .int .i64 sv ∧ b = .int .i64 se ∧ Below w3.heap.size w3 wx)
          case first =>
            as_aux_lemma =>
              refine wp_region_any (by kernel_rfl) ?_
              try (change wpAny _ _ _ _ _ _ _ (World.drew _))
              have kV := Lib.hid ((Below.refl w3.heap.size w3).drew)
              generalize w3.drew = V at *
              refine wpAny_take (i := 2) (v := ?_) rfl (by kernel_rfl) (by kernel_rfl) (by kernel_rfl) (fun _ _ _ h => h) (Or.inl ⟨by rfl, by intro w; go_simp; first | done | with_reducible rfl⟩) ?_
              simp only [List.getElem_toArray, List.getElem_cons_succ, List.getElem_cons_zero, Act.put, List.setIfInBounds_toArray, List.set_cons_zero, List.set_cons_succ]
              refine wpAny_take (i := 4) (v := ?_) rfl (by kernel_rfl) (by kernel_rfl) (by kernel_rfl) (fun _ _ _ h => h) (Or.inl ⟨by rfl, by intro w; go_simp; first | done | with_reducible rfl⟩) ?_
              simp only [List.getElem_toArray, List.getElem_cons_succ, List.getElem_cons_zero, Act.put, List.setIfInBounds_toArray, List.set_cons_zero, List.set_cons_succ]
              refine wpAny_take (i := 6) (v := ?_) rfl (by kernel_rfl) (by kernel_rfl) (by kernel_rfl) (fun _ _ _ h => h) (Or.inl ⟨by rfl, by intro w; go_simp; first | done | with_reducible rfl⟩) ?_
              simp only [List.getElem_toArray, List.getElem_cons_succ, List.getElem_cons_zero, Act.put, List.setIfInBounds_toArray, List.set_cons_zero, List.set_cons_succ]
              refine wpAny_ready (rs := [0, 1]) (by kernel_rfl) (by simp) ?_
              refine AllReady.cons rfl (fun K hK => ?_) ?_
              · have hK' := hK; clear hK; have hK := hK'; clear hK'
                have hq := (kV.out.block _ (blkX hh3.out)).trans hh3.out
                have x0 := blkC hq 0
                have x1 := blkC hq 1
                have x2 := blkC hq 2
                have x3 := blkC hq 3
                simp only [List.getElem?_toArray, List.getElem?_cons_zero, List.getElem?_cons_succ] at x0 x1 x2 x3
                replace hq := Lib.hid hq
                go_simp
                refine hK _ _ ?_
                clear hK K
                clear x0 x1 x2 x3 hq
                refine wpAny_ready (rs := [1]) (by kernel_rfl) (by simp) ?_
                refine AllReady.cons rfl (fun K hK => ?_) ?_
                · have hK' := hK; clear hK; have hK := hK'; clear hK'
                  go_simp
                  refine hK _ _ ?_
                  clear hK K
                  have hE0 := Lib.hid (emp_new (w := w3) kV.out)
                  have kV1 := Lib.hid hE0.out.bel
                  clear kV; have kV := kV1; clear kV1
                  generalize V.alloc (.cells #[] 56) = V at *
                  refine wpAny_ready (rs := [3]) (by kernel_rfl) (by simp) ?_
                  refine AllReady.cons rfl (fun K hK => ?_) ?_
                  · have hK' := hK; clear hK; have hK := hK'; clear hK'
                    obtain ⟨A2', c2', V, hrun, hE1, hgr⟩ := cat2 (d := dl0) hE0.out (SL.keep hE.out (hb3.out.trans (kV.out.mono hb3.out.size))) (by omega) (by omega)
                    rw [Nat.zero_add] at hrun hE1
                    rw [List.nil_append] at hE1
                    go_simp
                    refine hK _ _ ?_
                    clear hK K
                    clear hrun hgr
                    have kV1 := Lib.hid hE1.bel
                    replace hE1 := Lib.hid hE1
                    clear kV hE0; have kV := kV1; clear kV1
                    refine wpAny_ready (rs := [5]) (by kernel_rfl) (by simp) ?_
                    refine AllReady.cons rfl (fun K hK => ?_) ?_
                    · have hK' := hK; clear hK; have hK := hK'; clear hK'
                      obtain ⟨A3', c3', V, hrun, hE3, hgr⟩ := cat2 (d := dl2) hE1.out (SL.keep hE2.out (hb3.out.trans (kV.out.mono hb3.out.size))) (by omega) (by omega)
                      go_simp
                      refine hK _ _ ?_
                      clear hK K
                      clear hrun hgr
                      have kV1 := Lib.hid hE3.bel
                      replace hE3 := Lib.hid hE3
                      clear kV hE1; have kV := kV1; clear kV1
                      refine wpAny_ready (rs := [7]) (by kernel_rfl) (by simp) ?_
                      refine AllReady.cons rfl (fun K hK => ?_) ?_
                      · have hK' := hK; clear hK; have hK := hK'; clear hK'
                        have hcS := sum_any nm r dl A n c ss A3' (m + m2) c3' (l ++ l2) key V (hD.out.keep (hb3.out.trans (kV.out.mono hb3.out.size))).nm (hD.out.keep (hb3.out.trans (kV.out.mono hb3.out.size))).ss hD.out.n hD.out.cap hD.out.keys hE3.out.es (by omega) (Ld.keep hL.out (hb3.out.trans (kV.out.mono hb3.out.size)))
                        rw [← hsv.out, ← hse.out] at hcS
                        go_simp
                        go_wp2_with (go_at_call 8; refine hcS.mono ?_; rintro e V ⟨rfl, b9⟩; have kE := Lib.hid (kV.out.trans (b9.mono kV.out.size)))
                        first | (refine hK _ _ ?_; clear hK K) | skip
                        refine wpAny_take (i := 8) (v := ?_) rfl (by kernel_rfl) (by kernel_rfl) (by kernel_rfl) (fun _ _ _ h => h) (Or.inl ⟨by rfl, by intro w; go_simp; first | done | with_reducible rfl⟩) ?_
                        simp only [List.getElem_toArray, List.getElem_cons_succ, List.getElem_cons_zero, Act.put, List.setIfInBounds_toArray, List.set_cons_zero, List.set_cons_succ]
                        refine wpAny_take (i := 9) (v := ?_) rfl (by kernel_rfl) (by kernel_rfl) (by kernel_rfl) (fun _ _ _ h => h) (Or.inl ⟨by rfl, by intro w; go_simp; first | done | with_reducible rfl⟩) ?_
                        simp only [List.getElem_toArray, List.getElem_cons_succ, List.getElem_cons_zero, Act.put, List.setIfInBounds_toArray, List.set_cons_zero, List.set_cons_succ]
                        refine wpAny_take (i := 10) (v := ?_) rfl (by kernel_rfl) (by kernel_rfl) (by kernel_rfl) (fun _ _ _ h => h) (Or.inl ⟨by rfl, by intro w; go_simp; first | done | with_reducible rfl⟩) ?_
                        simp only [List.getElem_toArray, List.getElem_cons_succ, List.getElem_cons_zero, Act.put, List.setIfInBounds_toArray, List.set_cons_zero, List.set_cons_succ]
                        refine wpAny_take (i := 11) (v := ?_) rfl (by kernel_rfl) (by kernel_rfl) (by kernel_rfl) (fun _ _ _ h => h) (Or.inl ⟨by rfl, by intro w; go_simp; first | done | with_reducible rfl⟩) ?_
                        simp only [List.getElem_toArray, List.getElem_cons_succ, List.getElem_cons_zero, Act.put, List.setIfInBounds_toArray, List.set_cons_zero, List.set_cons_succ]
                        refine wpAny_take (i := 12) (v := ?_) rfl (by kernel_rfl) (by kernel_rfl) (by kernel_rfl) (fun _ _ _ h => h) (Or.inl ⟨by rfl, by intro w; go_simp; first | done | with_reducible rfl⟩) ?_
                        simp only [List.getElem_toArray, List.getElem_cons_succ, List.getElem_cons_zero, Act.put, List.setIfInBounds_toArray, List.set_cons_zero, List.set_cons_succ]
                        refine wpAny_done (by kernel_rfl) ?_ _
                        go_wp2_with (fail)
                        go_meet
                        exact ⟨rfl, rfl, kE.out⟩
                      exact AllReady.nil
                    exact AllReady.nil
                  exact AllReady.nil
                exact AllReady.nil
              refine AllReady.cons rfl (fun K hK => ?_) ?_
              · have hK' := hK; clear hK; have hK := hK'; clear hK'
                go_simp
                refine hK _ _ ?_
                clear hK K
                have hE0 := Lib.hid (emp_new (w := w3) kV.out)
                have kV1 := Lib.hid hE0.out.bel
                clear kV; have kV := kV1; clear kV1
                generalize V.alloc (.cells #[] 56) = V at *
                refine wpAny_ready (rs := [0, 3]) (by kernel_rfl) (by simp) ?_
                refine AllReady.cons rfl (fun K hK => ?_) ?_
                · have hK' := hK; clear hK; have hK := hK'; clear hK'
                  have hq := (kV.out.block _ (blkX hh3.out)).trans hh3.out
                  have x0 := blkC hq 0
                  have x1 := blkC hq 1
                  have x2 := blkC hq 2
                  have x3 := blkC hq 3
                  simp only [List.getElem?_toArray, List.getElem?_cons_zero, List.getElem?_cons_succ] at x0 x1 x2 x3
                  replace hq := Lib.hid hq
                  go_simp
                  refine hK _ _ ?_
                  clear hK K
                  clear x0 x1 x2 x3 hq
                  refine wpAny_ready (rs := [3]) (by kernel_rfl) (by simp) ?_
                  refine AllReady.cons rfl (fun K hK => ?_) ?_
                  · have hK' := hK; clear hK; have hK := hK'; clear hK'
                    obtain ⟨A2', c2', V, hrun, hE1, hgr⟩ := cat2 (d := dl0) hE0.out (SL.keep hE.out (hb3.out.trans (kV.out.mono hb3.out.size))) (by omega) (by omega)
                    rw [Nat.zero_add] at hrun hE1
                    rw [List.nil_append] at hE1
                    go_simp
                    refine hK _ _ ?_
                    clear hK K
                    clear hrun hgr
                    have kV1 := Lib.hid hE1.bel
                    replace hE1 := Lib.hid hE1
                    clear kV hE0; have kV := kV1; clear kV1
                    refine wpAny_ready (rs := [5]) (by kernel_rfl) (by simp) ?_
                    refine AllReady.cons rfl (fun K hK => ?_) ?_
                    · have hK' := hK; clear hK; have hK := hK'; clear hK'
                      obtain ⟨A3', c3', V, hrun, hE3, hgr⟩ := cat2 (d := dl2) hE1.out (SL.keep hE2.out (hb3.out.trans (kV.out.mono hb3.out.size))) (by omega) (by omega)
                      go_simp
                      refine hK _ _ ?_
                      clear hK K
                      clear hrun hgr
                      have kV1 := Lib.hid hE3.bel
                      replace hE3 := Lib.hid hE3
                      clear kV hE1; have kV := kV1; clear kV1
                      refine wpAny_ready (rs := [7]) (by kernel_rfl) (by simp) ?_
                      refine AllReady.cons rfl (fun K hK => ?_) ?_
                      · have hK' := hK; clear hK; have hK := hK'; clear hK'
                        have hcS := sum_any nm r dl A n c ss A3' (m + m2) c3' (l ++ l2) key V (hD.out.keep (hb3.out.trans (kV.out.mono hb3.out.size))).nm (hD.out.keep (hb3.out.trans (kV.out.mono hb3.out.size))).ss hD.out.n hD.out.cap hD.out.keys hE3.out.es (by omega) (Ld.keep hL.out (hb3.out.trans (kV.out.mono hb3.out.size)))
                        rw [← hsv.out, ← hse.out] at hcS
                        go_simp
                        go_wp2_with (go_at_call 8; refine hcS.mono ?_; rintro e V ⟨rfl, b9⟩; have kE := Lib.hid (kV.out.trans (b9.mono kV.out.size)))
                        first | (refine hK _ _ ?_; clear hK K) | skip
                        refine wpAny_take (i := 8) (v := ?_) rfl (by kernel_rfl) (by kernel_rfl) (by kernel_rfl) (fun _ _ _ h => h) (Or.inl ⟨by rfl, by intro w; go_simp; first | done | with_reducible rfl⟩) ?_
                        simp only [List.getElem_toArray, List.getElem_cons_succ, List.getElem_cons_zero, Act.put, List.setIfInBounds_toArray, List.set_cons_zero, List.set_cons_succ]
                        refine wpAny_take (i := 9) (v := ?_) rfl (by kernel_rfl) (by kernel_rfl) (by kernel_rfl) (fun _ _ _ h => h) (Or.inl ⟨by rfl, by intro w; go_simp; first | done | with_reducible rfl⟩) ?_
                        simp only [List.getElem_toArray, List.getElem_cons_succ, List.getElem_cons_zero, Act.put, List.setIfInBounds_toArray, List.set_cons_zero, List.set_cons_succ]
                        refine wpAny_take (i := 10) (v := ?_) rfl (by kernel_rfl) (by kernel_rfl) (by kernel_rfl) (fun _ _ _ h => h) (Or.inl ⟨by rfl, by intro w; go_simp; first | done | with_reducible rfl⟩) ?_
                        simp only [List.getElem_toArray, List.getElem_cons_succ, List.getElem_cons_zero, Act.put, List.setIfInBounds_toArray, List.set_cons_zero, List.set_cons_succ]
                        refine wpAny_take (i := 11) (v := ?_) rfl (by kernel_rfl) (by kernel_rfl) (by kernel_rfl) (fun _ _ _ h => h) (Or.inl ⟨by rfl, by intro w; go_simp; first | done | with_reducible rfl⟩) ?_
                        simp only [List.getElem_toArray, List.getElem_cons_succ, List.getElem_cons_zero, Act.put, List.setIfInBounds_toArray, List.set_cons_zero, List.set_cons_succ]
                        refine wpAny_take (i := 12) (v := ?_) rfl (by kernel_rfl) (by kernel_rfl) (by kernel_rfl) (fun _ _ _ h => h) (Or.inl ⟨by rfl, by intro w; go_simp; first | done | with_reducible rfl⟩) ?_
                        simp only [List.getElem_toArray, List.getElem_cons_succ, List.getElem_cons_zero, Act.put, List.setIfInBounds_toArray, List.set_cons_zero, List.set_cons_succ]
                        refine wpAny_done (by kernel_rfl) ?_ _
                        go_wp2_with (fail)
                        go_meet
                        exact ⟨rfl, rfl, kE.out⟩
                      exact AllReady.nil
                    exact AllReady.nil
                  exact AllReady.nil
                refine AllReady.cons rfl (fun K hK => ?_) ?_
                · have hK' := hK; clear hK; have hK := hK'; clear hK'
                  obtain ⟨A2', c2', V, hrun, hE1, hgr⟩ := cat2 (d := dl0) hE0.out (SL.keep hE.out (hb3.out.trans (kV.out.mono hb3.out.size))) (by omega) (by omega)
                  rw [Nat.zero_add] at hrun hE1
                  rw [List.nil_append] at hE1
                  go_simp
                  refine hK _ _ ?_
                  clear hK K
                  clear hrun hgr
                  have kV1 := Lib.hid hE1.bel
                  replace hE1 := Lib.hid hE1
                  clear kV hE0; have kV := kV1; clear kV1
                  refine wpAny_ready (rs := [0, 5]) (by kernel_rfl) (by simp) ?_
                  refine AllReady.cons rfl (fun K hK => ?_) ?_
                  · have hK' := hK; clear hK; have hK := hK'; clear hK'
                    have hq := (kV.out.block _ (blkX hh3.out)).trans hh3.out
                    have x0 := blkC hq 0
                    have x1 := blkC hq 1
                    have x2 := blkC hq 2
                    have x3 := blkC hq 3
                    simp only [List.getElem?_toArray, List.getElem?_cons_zero, List.getElem?_cons_succ] at x0 x1 x2 x3
                    replace hq := Lib.hid hq
                    go_simp
                    refine hK _ _ ?_
                    clear hK K
                    clear x0 x1 x2 x3 hq
                    refine wpAny_ready (rs := [5]) (by kernel_rfl) (by simp) ?_
                    refine AllReady.cons rfl (fun K hK => ?_) ?_
                    · have hK' := hK; clear hK; have hK := hK'; clear hK'
                      obtain ⟨A3', c3', V, hrun, hE3, hgr⟩ := cat2 (d := dl2) hE1.out (SL.keep hE2.out (hb3.out.trans (kV.out.mono hb3.out.size))) (by omega) (by omega)
                      go_simp
                      refine hK _ _ ?_
                      clear hK K
                      clear hrun hgr
                      have kV1 := Lib.hid hE3.bel
                      replace hE3 := Lib.hid hE3
                      clear kV hE1; have kV := kV1; clear kV1
                      refine wpAny_ready (rs := [7]) (by kernel_rfl) (by simp) ?_
                      refine AllReady.cons rfl (fun K hK => ?_) ?_
                      · have hK' := hK; clear hK; have hK := hK'; clear hK'
                        have hcS := sum_any nm r dl A n c ss A3' (m + m2) c3' (l ++ l2) key V (hD.out.keep (hb3.out.trans (kV.out.mono hb3.out.size))).nm (hD.out.keep (hb3.out.trans (kV.out.mono hb3.out.size))).ss hD.out.n hD.out.cap hD.out.keys hE3.out.es (by omega) (Ld.keep hL.out (hb3.out.trans (kV.out.mono hb3.out.size)))
                        rw [← hsv.out, ← hse.out] at hcS
                        go_simp
                        go_wp2_with (go_at_call 8; refine hcS.mono ?_; rintro e V ⟨rfl, b9⟩; have kE := Lib.hid (kV.out.trans (b9.mono kV.out.size)))
                        first | (refine hK _ _ ?_; clear hK K) | skip
                        refine wpAny_take (i := 8) (v := ?_) rfl (by kernel_rfl) (by kernel_rfl) (by kernel_rfl) (fun _ _ _ h => h) (Or.inl ⟨by rfl, by intro w; go_simp; first | done | with_reducible rfl⟩) ?_
                        simp only [List.getElem_toArray, List.getElem_cons_succ, List.getElem_cons_zero, Act.put, List.setIfInBounds_toArray, List.set_cons_zero, List.set_cons_succ]
                        refine wpAny_take (i := 9) (v := ?_) rfl (by kernel_rfl) (by kernel_rfl) (by kernel_rfl) (fun _ _ _ h => h) (Or.inl ⟨by rfl, by intro w; go_simp; first | done | with_reducible rfl⟩) ?_
                        simp only [List.getElem_toArray, List.getElem_cons_succ, List.getElem_cons_zero, Act.put, List.setIfInBounds_toArray, List.set_cons_zero, List.set_cons_succ]
                        refine wpAny_take (i := 10) (v := ?_) rfl (by kernel_rfl) (by kernel_rfl) (by kernel_rfl) (fun _ _ _ h => h) (Or.inl ⟨by rfl, by intro w; go_simp; first | done | with_reducible rfl⟩) ?_
                        simp only [List.getElem_toArray, List.getElem_cons_succ, List.getElem_cons_zero, Act.put, List.setIfInBounds_toArray, List.set_cons_zero, List.set_cons_succ]
                        refine wpAny_take (i := 11) (v := ?_) rfl (by kernel_rfl) (by kernel_rfl) (by kernel_rfl) (fun _ _ _ h => h) (Or.inl ⟨by rfl, by intro w; go_simp; first | done | with_reducible rfl⟩) ?_
                        simp only [List.getElem_toArray, List.getElem_cons_succ, List.getElem_cons_zero, Act.put, List.setIfInBounds_toArray, List.set_cons_zero, List.set_cons_succ]
                        refine wpAny_take (i := 12) (v := ?_) rfl (by kernel_rfl) (by kernel_rfl) (by kernel_rfl) (fun _ _ _ h => h) (Or.inl ⟨by rfl, by intro w; go_simp; first | done | with_reducible rfl⟩) ?_
                        simp only [List.getElem_toArray, List.getElem_cons_succ, List.getElem_cons_zero, Act.put, List.setIfInBounds_toArray, List.set_cons_zero, List.set_cons_succ]
                        refine wpAny_done (by kernel_rfl) ?_ _
                        go_wp2_with (fail)
                        go_meet
                        exact ⟨rfl, rfl, kE.out⟩
                      exact AllReady.nil
                    exact AllReady.nil
                  refine AllReady.cons rfl (fun K hK => ?_) ?_
                  · have hK' := hK; clear hK; have hK := hK'; clear hK'
                    obtain ⟨A3', c3', V, hrun, hE3, hgr⟩ := cat2 (d := dl2) hE1.out (SL.keep hE2.out (hb3.out.trans (kV.out.mono hb3.out.size))) (by omega) (by omega)
                    go_simp
                    refine hK _ _ ?_
                    clear hK K
                    clear hrun hgr
                    have kV1 := Lib.hid hE3.bel
                    replace hE3 := Lib.hid hE3
                    clear kV hE1; have kV := kV1; clear kV1
                    refine wpAny_ready (rs := [0]) (by kernel_rfl) (by simp) ?_
                    refine AllReady.cons rfl (fun K hK => ?_) ?_
                    · have hK' := hK; clear hK; have hK := hK'; clear hK'
                      have hq := (kV.out.block _ (blkX hh3.out)).trans hh3.out
                      have x0 := blkC hq 0
                      have x1 := blkC hq 1
                      have x2 := blkC hq 2
                      have x3 := blkC hq 3
                      simp only [List.getElem?_toArray, List.getElem?_cons_zero, List.getElem?_cons_succ] at x0 x1 x2 x3
                      replace hq := Lib.hid hq
                      go_simp
                      refine hK _ _ ?_
                      clear hK K
                      clear x0 x1 x2 x3 hq
                      refine wpAny_ready (rs := [7]) (by kernel_rfl) (by simp) ?_
                      refine AllReady.cons rfl (fun K hK => ?_) ?_
                      · have hK' := hK; clear hK; have hK := hK'; clear hK'
                        have hcS := sum_any nm r dl A n c ss A3' (m + m2) c3' (l ++ l2) key V (hD.out.keep (hb3.out.trans (kV.out.mono hb3.out.size))).nm (hD.out.keep (hb3.out.trans (kV.out.mono hb3.out.size))).ss hD.out.n hD.out.cap hD.out.keys hE3.out.es (by omega) (Ld.keep hL.out (hb3.out.trans (kV.out.mono hb3.out.size)))
                        rw [← hsv.out, ← hse.out] at hcS
                        go_simp
                        go_wp2_with (go_at_call 8; refine hcS.mono ?_; rintro e V ⟨rfl, b9⟩; have kE := Lib.hid (kV.out.trans (b9.mono kV.out.size)))
                        first | (refine hK _ _ ?_; clear hK K) | skip
                        refine wpAny_take (i := 8) (v := ?_) rfl (by kernel_rfl) (by kernel_rfl) (by kernel_rfl) (fun _ _ _ h => h) (Or.inl ⟨by rfl, by intro w; go_simp; first | done | with_reducible rfl⟩) ?_
                        simp only [List.getElem_toArray, List.getElem_cons_succ, List.getElem_cons_zero, Act.put, List.setIfInBounds_toArray, List.set_cons_zero, List.set_cons_succ]
                        refine wpAny_take (i := 9) (v := ?_) rfl (by kernel_rfl) (by kernel_rfl) (by kernel_rfl) (fun _ _ _ h => h) (Or.inl ⟨by rfl, by intro w; go_simp; first | done | with_reducible rfl⟩) ?_
                        simp only [List.getElem_toArray, List.getElem_cons_succ, List.getElem_cons_zero, Act.put, List.setIfInBounds_toArray, List.set_cons_zero, List.set_cons_succ]
                        refine wpAny_take (i := 10) (v := ?_) rfl (by kernel_rfl) (by kernel_rfl) (by kernel_rfl) (fun _ _ _ h => h) (Or.inl ⟨by rfl, by intro w; go_simp; first | done | with_reducible rfl⟩) ?_
                        simp only [List.getElem_toArray, List.getElem_cons_succ, List.getElem_cons_zero, Act.put, List.setIfInBounds_toArray, List.set_cons_zero, List.set_cons_succ]
                        refine wpAny_take (i := 11) (v := ?_) rfl (by kernel_rfl) (by kernel_rfl) (by kernel_rfl) (fun _ _ _ h => h) (Or.inl ⟨by rfl, by intro w; go_simp; first | done | with_reducible rfl⟩) ?_
                        simp only [List.getElem_toArray, List.getElem_cons_succ, List.getElem_cons_zero, Act.put, List.setIfInBounds_toArray, List.set_cons_zero, List.set_cons_succ]
                        refine wpAny_take (i := 12) (v := ?_) rfl (by kernel_rfl) (by kernel_rfl) (by kernel_rfl) (fun _ _ _ h => h) (Or.inl ⟨by rfl, by intro w; go_simp; first | done | with_reducible rfl⟩) ?_
                        simp only [List.getElem_toArray, List.getElem_cons_succ, List.getElem_cons_zero, Act.put, List.setIfInBounds_toArray, List.set_cons_zero, List.set_cons_succ]
                        refine wpAny_done (by kernel_rfl) ?_ _
                        go_wp2_with (fail)
                        go_meet
                        exact ⟨rfl, rfl, kE.out⟩
                      exact AllReady.nil
                    exact AllReady.nil
                  exact AllReady.nil
                exact AllReady.nil
              exact AllReady.nil
          case rest =>
            obtain ⟨rfl, rfl, b4⟩ := hcut
            have hh4 := Lib.hid ((b4.block _ (blkX hh3.out)).trans hh3.out)
            have hb4 := Lib.hid (hb3.out.trans (b4.mono hb3.out.size))
            clear b4
            go_upto_region 6 with (fail)
            go_cut [15, 16] from 74 (fun a b wx => a = .int .i64 sv ∧ b = .int .i64 se ∧ Below wc.heap.size wc wx)
            case first =>
              as_aux_lemma =>
                refine wp_region_any (by kernel_rfl) ?_
                try (change wpAny _ _ _ _ _ _ _ (World.drew _))
                have kV := Lib.hid ((Below.refl wc.heap.size wc).drew)
                generalize wc.drew = V at *
                refine wpAny_take (i := 2) (v := ?_) rfl (by kernel_rfl) (by kernel_rfl) (by kernel_rfl) (fun _ _ _ h => h) (Or.inl ⟨by rfl, by intro w; go_simp; first | done | with_reducible rfl⟩) ?_
                simp only [List.getElem_toArray, List.getElem_cons_succ, List.getElem_cons_zero, Act.put, List.setIfInBounds_toArray, List.set_cons_zero, List.set_cons_succ]
                refine wpAny_take (i := 4) (v := ?_) rfl (by kernel_rfl) (by kernel_rfl) (by kernel_rfl) (fun _ _ _ h => h) (Or.inl ⟨by rfl, by intro w; go_simp; first | done | with_reducible rfl⟩) ?_
                simp only [List.getElem_toArray, List.getElem_cons_succ, List.getElem_cons_zero, Act.put, List.setIfInBounds_toArray, List.set_cons_zero, List.set_cons_succ]
                refine wpAny_take (i := 6) (v := ?_) rfl (by kernel_rfl) (by kernel_rfl) (by kernel_rfl) (fun _ _ _ h => h) (Or.inl ⟨by rfl, by intro w; go_simp; first | done | with_reducible rfl⟩) ?_
                simp only [List.getElem_toArray, List.getElem_cons_succ, List.getElem_cons_zero, Act.put, List.setIfInBounds_toArray, List.set_cons_zero, List.set_cons_succ]
                refine wpAny_ready (rs := [0, 1]) (by kernel_rfl) (by simp) ?_
                refine AllReady.cons rfl (fun K hK => ?_) ?_
                · have hK' := hK; clear hK; have hK := hK'; clear hK'
                  have hq := (kV.out.block _ (blkX hh4.out)).trans hh4.out
                  have x0 := blkC hq 0
                  have x1 := blkC hq 1
                  have x2 := blkC hq 2
                  have x3 := blkC hq 3
                  simp only [List.getElem?_toArray, List.getElem?_cons_zero, List.getElem?_cons_succ] at x0 x1 x2 x3
                  replace hq := Lib.hid hq
                  go_simp
                  refine hK _ _ ?_
                  clear hK K
                  clear x0 x1 x2 x3 hq
                  refine wpAny_ready (rs := [1]) (by kernel_rfl) (by simp) ?_
                  refine AllReady.cons rfl (fun K hK => ?_) ?_
                  · have hK' := hK; clear hK; have hK := hK'; clear hK'
                    go_simp
                    refine hK _ _ ?_
                    clear hK K
                    have hE0 := Lib.hid (emp_new (w := wc) kV.out)
                    have kV1 := Lib.hid hE0.out.bel
                    clear kV; have kV := kV1; clear kV1
                    generalize V.alloc (.cells #[] 56) = V at *
                    refine wpAny_ready (rs := [3]) (by kernel_rfl) (by simp) ?_
                    refine AllReady.cons rfl (fun K hK => ?_) ?_
                    · have hK' := hK; clear hK; have hK := hK'; clear hK'
                      obtain ⟨A2', c2', V, hrun, hE1, hgr⟩ := cat2 (d := dl2) hE0.out (SL.keep hE2.out (hb4.out.trans (kV.out.mono hb4.out.size))) (by omega) (by omega)
                      rw [Nat.zero_add] at hrun hE1
                      rw [List.nil_append] at hE1
                      go_simp
                      refine hK _ _ ?_
                      clear hK K
                      clear hrun hgr
                      have kV1 := Lib.hid hE1.bel
                      replace hE1 := Lib.hid hE1
                      clear kV hE0; have kV := kV1; clear kV1
                      refine wpAny_ready (rs := [5]) (by kernel_rfl) (by simp) ?_
                      refine AllReady.cons rfl (fun K hK => ?_) ?_
                      · have hK' := hK; clear hK; have hK := hK'; clear hK'
                        obtain ⟨A3', c3', V, hrun, hE3, hgr⟩ := cat2 (d := dl0) hE1.out (SL.keep hE.out (hb4.out.trans (kV.out.mono hb4.out.size))) (by omega) (by omega)
                        go_simp
                        refine hK _ _ ?_
                        clear hK K
                        clear hrun hgr
                        have kV1 := Lib.hid hE3.bel
                        replace hE3 := Lib.hid hE3
                        clear kV hE1; have kV := kV1; clear kV1
                        refine wpAny_ready (rs := [7]) (by kernel_rfl) (by simp) ?_
                        refine AllReady.cons rfl (fun K hK => ?_) ?_
                        · have hK' := hK; clear hK; have hK := hK'; clear hK'
                          have hcS := sum_any nm r dl A n c ss A3' (m2 + m) c3' (l2 ++ l) key V (hD.out.keep (hb4.out.trans (kV.out.mono hb4.out.size))).nm (hD.out.keep (hb4.out.trans (kV.out.mono hb4.out.size))).ss hD.out.n hD.out.cap hD.out.keys hE3.out.es (by omega) (Ld.keep hL.out (hb4.out.trans (kV.out.mono hb4.out.size)))
                          rw [← hcm.out, ← hsv.out, ← hse.out] at hcS
                          go_simp
                          go_wp2_with (go_at_call 8; refine hcS.mono ?_; rintro e V ⟨rfl, b9⟩; have kE := Lib.hid (kV.out.trans (b9.mono kV.out.size)))
                          first | (refine hK _ _ ?_; clear hK K) | skip
                          refine wpAny_take (i := 8) (v := ?_) rfl (by kernel_rfl) (by kernel_rfl) (by kernel_rfl) (fun _ _ _ h => h) (Or.inl ⟨by rfl, by intro w; go_simp; first | done | with_reducible rfl⟩) ?_
                          simp only [List.getElem_toArray, List.getElem_cons_succ, List.getElem_cons_zero, Act.put, List.setIfInBounds_toArray, List.set_cons_zero, List.set_cons_succ]
                          refine wpAny_take (i := 9) (v := ?_) rfl (by kernel_rfl) (by kernel_rfl) (by kernel_rfl) (fun _ _ _ h => h) (Or.inl ⟨by rfl, by intro w; go_simp; first | done | with_reducible rfl⟩) ?_
                          simp only [List.getElem_toArray, List.getElem_cons_succ, List.getElem_cons_zero, Act.put, List.setIfInBounds_toArray, List.set_cons_zero, List.set_cons_succ]
                          refine wpAny_take (i := 10) (v := ?_) rfl (by kernel_rfl) (by kernel_rfl) (by kernel_rfl) (fun _ _ _ h => h) (Or.inl ⟨by rfl, by intro w; go_simp; first | done | with_reducible rfl⟩) ?_
                          simp only [List.getElem_toArray, List.getElem_cons_succ, List.getElem_cons_zero, Act.put, List.setIfInBounds_toArray, List.set_cons_zero, List.set_cons_succ]
                          refine wpAny_take (i := 11) (v := ?_) rfl (by kernel_rfl) (by kernel_rfl) (by kernel_rfl) (fun _ _ _ h => h) (Or.inl ⟨by rfl, by intro w; go_simp; first | done | with_reducible rfl⟩) ?_
                          simp only [List.getElem_toArray, List.getElem_cons_succ, List.getElem_cons_zero, Act.put, List.setIfInBounds_toArray, List.set_cons_zero, List.set_cons_succ]
                          refine wpAny_take (i := 12) (v := ?_) rfl (by kernel_rfl) (by kernel_rfl) (by kernel_rfl) (fun _ _ _ h => h) (Or.inl ⟨by rfl, by intro w; go_simp; first | done | with_reducible rfl⟩) ?_
                          simp only [List.getElem_toArray, List.getElem_cons_succ, List.getElem_cons_zero, Act.put, List.setIfInBounds_toArray, List.set_cons_zero, List.set_cons_succ]
                          refine wpAny_done (by kernel_rfl) ?_ _
                          go_wp2_with (fail)
                          go_meet
                          exact ⟨rfl, rfl, kE.out⟩
                        exact AllReady.nil
                      exact AllReady.nil
                    exact AllReady.nil
                  exact AllReady.nil
                refine AllReady.cons rfl (fun K hK => ?_) ?_
                · have hK' := hK; clear hK; have hK := hK'; clear hK'
                  go_simp
                  refine hK _ _ ?_
                  clear hK K
                  have hE0 := Lib.hid (emp_new (w := wc) kV.out)
                  have kV1 := Lib.hid hE0.out.bel
                  clear kV; have kV := kV1; clear kV1
                  generalize V.alloc (.cells #[] 56) = V at *
                  refine wpAny_ready (rs := [0, 3]) (by kernel_rfl) (by simp) ?_
                  refine AllReady.cons rfl (fun K hK => ?_) ?_
                  · have hK' := hK; clear hK; have hK := hK'; clear hK'
                    have hq := (kV.out.block _ (blkX hh4.out)).trans hh4.out
                    have x0 := blkC hq 0
                    have x1 := blkC hq 1
                    have x2 := blkC hq 2
                    have x3 := blkC hq 3
                    simp only [List.getElem?_toArray, List.getElem?_cons_zero, List.getElem?_cons_succ] at x0 x1 x2 x3
                    replace hq := Lib.hid hq
                    go_simp
                    refine hK _ _ ?_
                    clear hK K
                    clear x0 x1 x2 x3 hq
                    refine wpAny_ready (rs := [3]) (by kernel_rfl) (by simp) ?_
                    refine AllReady.cons rfl (fun K hK => ?_) ?_
                    · have hK' := hK; clear hK; have hK := hK'; clear hK'
                      obtain ⟨A2', c2', V, hrun, hE1, hgr⟩ := cat2 (d := dl2) hE0.out (SL.keep hE2.out (hb4.out.trans (kV.out.mono hb4.out.size))) (by omega) (by omega)
                      rw [Nat.zero_add] at hrun hE1
                      rw [List.nil_append] at hE1
                      go_simp
                      refine hK _ _ ?_
                      clear hK K
                      clear hrun hgr
                      have kV1 := Lib.hid hE1.bel
                      replace hE1 := Lib.hid hE1
                      clear kV hE0; have kV := kV1; clear kV1
                      refine wpAny_ready (rs := [5]) (by kernel_rfl) (by simp) ?_
                      refine AllReady.cons rfl (fun K hK => ?_) ?_
                      · have hK' := hK; clear hK; have hK := hK'; clear hK'
                        obtain ⟨A3', c3', V, hrun, hE3, hgr⟩ := cat2 (d := dl0) hE1.out (SL.keep hE.out (hb4.out.trans (kV.out.mono hb4.out.size))) (by omega) (by omega)
                        go_simp
                        refine hK _ _ ?_
                        clear hK K
                        clear hrun hgr
                        have kV1 := Lib.hid hE3.bel
                        replace hE3 := Lib.hid hE3
                        clear kV hE1; have kV := kV1; clear kV1
                        refine wpAny_ready (rs := [7]) (by kernel_rfl) (by simp) ?_
                        refine AllReady.cons rfl (fun K hK => ?_) ?_
                        · have hK' := hK; clear hK; have hK := hK'; clear hK'
                          have hcS := sum_any nm r dl A n c ss A3' (m2 + m) c3' (l2 ++ l) key V (hD.out.keep (hb4.out.trans (kV.out.mono hb4.out.size))).nm (hD.out.keep (hb4.out.trans (kV.out.mono hb4.out.size))).ss hD.out.n hD.out.cap hD.out.keys hE3.out.es (by omega) (Ld.keep hL.out (hb4.out.trans (kV.out.mono hb4.out.size)))
                          rw [← hcm.out, ← hsv.out, ← hse.out] at hcS
                          go_simp
                          go_wp2_with (go_at_call 8; refine hcS.mono ?_; rintro e V ⟨rfl, b9⟩; have kE := Lib.hid (kV.out.trans (b9.mono kV.out.size)))
                          first | (refine hK _ _ ?_; clear hK K) | skip
                          refine wpAny_take (i := 8) (v := ?_) rfl (by kernel_rfl) (by kernel_rfl) (by kernel_rfl) (fun _ _ _ h => h) (Or.inl ⟨by rfl, by intro w; go_simp; first | done | with_reducible rfl⟩) ?_
                          simp only [List.getElem_toArray, List.getElem_cons_succ, List.getElem_cons_zero, Act.put, List.setIfInBounds_toArray, List.set_cons_zero, List.set_cons_succ]
                          refine wpAny_take (i := 9) (v := ?_) rfl (by kernel_rfl) (by kernel_rfl) (by kernel_rfl) (fun _ _ _ h => h) (Or.inl ⟨by rfl, by intro w; go_simp; first | done | with_reducible rfl⟩) ?_
                          simp only [List.getElem_toArray, List.getElem_cons_succ, List.getElem_cons_zero, Act.put, List.setIfInBounds_toArray, List.set_cons_zero, List.set_cons_succ]
                          refine wpAny_take (i := 10) (v := ?_) rfl (by kernel_rfl) (by kernel_rfl) (by kernel_rfl) (fun _ _ _ h => h) (Or.inl ⟨by rfl, by intro w; go_simp; first | done | with_reducible rfl⟩) ?_
                          simp only [List.getElem_toArray, List.getElem_cons_succ, List.getElem_cons_zero, Act.put, List.setIfInBounds_toArray, List.set_cons_zero, List.set_cons_succ]
                          refine wpAny_take (i := 11) (v := ?_) rfl (by kernel_rfl) (by kernel_rfl) (by kernel_rfl) (fun _ _ _ h => h) (Or.inl ⟨by rfl, by intro w; go_simp; first | done | with_reducible rfl⟩) ?_
                          simp only [List.getElem_toArray, List.getElem_cons_succ, List.getElem_cons_zero, Act.put, List.setIfInBounds_toArray, List.set_cons_zero, List.set_cons_succ]
                          refine wpAny_take (i := 12) (v := ?_) rfl (by kernel_rfl) (by kernel_rfl) (by kernel_rfl) (fun _ _ _ h => h) (Or.inl ⟨by rfl, by intro w; go_simp; first | done | with_reducible rfl⟩) ?_
                          simp only [List.getElem_toArray, List.getElem_cons_succ, List.getElem_cons_zero, Act.put, List.setIfInBounds_toArray, List.set_cons_zero, List.set_cons_succ]
                          refine wpAny_done (by kernel_rfl) ?_ _
                          go_wp2_with (fail)
                          go_meet
                          exact ⟨rfl, rfl, kE.out⟩
                        exact AllReady.nil
                      exact AllReady.nil
                    exact AllReady.nil
                  refine AllReady.cons rfl (fun K hK => ?_) ?_
                  · have hK' := hK; clear hK; have hK := hK'; clear hK'
                    obtain ⟨A2', c2', V, hrun, hE1, hgr⟩ := cat2 (d := dl2) hE0.out (SL.keep hE2.out (hb4.out.trans (kV.out.mono hb4.out.size))) (by omega) (by omega)
                    rw [Nat.zero_add] at hrun hE1
                    rw [List.nil_append] at hE1
                    go_simp
                    refine hK _ _ ?_
                    clear hK K
                    clear hrun hgr
                    have kV1 := Lib.hid hE1.bel
                    replace hE1 := Lib.hid hE1
                    clear kV hE0; have kV := kV1; clear kV1
                    refine wpAny_ready (rs := [0, 5]) (by kernel_rfl) (by simp) ?_
                    refine AllReady.cons rfl (fun K hK => ?_) ?_
                    · have hK' := hK; clear hK; have hK := hK'; clear hK'
                      have hq := (kV.out.block _ (blkX hh4.out)).trans hh4.out
                      have x0 := blkC hq 0
                      have x1 := blkC hq 1
                      have x2 := blkC hq 2
                      have x3 := blkC hq 3
                      simp only [List.getElem?_toArray, List.getElem?_cons_zero, List.getElem?_cons_succ] at x0 x1 x2 x3
                      replace hq := Lib.hid hq
                      go_simp
                      refine hK _ _ ?_
                      clear hK K
                      clear x0 x1 x2 x3 hq
                      refine wpAny_ready (rs := [5]) (by kernel_rfl) (by simp) ?_
                      refine AllReady.cons rfl (fun K hK => ?_) ?_
                      · have hK' := hK; clear hK; have hK := hK'; clear hK'
                        obtain ⟨A3', c3', V, hrun, hE3, hgr⟩ := cat2 (d := dl0) hE1.out (SL.keep hE.out (hb4.out.trans (kV.out.mono hb4.out.size))) (by omega) (by omega)
                        go_simp
                        refine hK _ _ ?_
                        clear hK K
                        clear hrun hgr
                        have kV1 := Lib.hid hE3.bel
                        replace hE3 := Lib.hid hE3
                        clear kV hE1; have kV := kV1; clear kV1
                        refine wpAny_ready (rs := [7]) (by kernel_rfl) (by simp) ?_
                        refine AllReady.cons rfl (fun K hK => ?_) ?_
                        · have hK' := hK; clear hK; have hK := hK'; clear hK'
                          have hcS := sum_any nm r dl A n c ss A3' (m2 + m) c3' (l2 ++ l) key V (hD.out.keep (hb4.out.trans (kV.out.mono hb4.out.size))).nm (hD.out.keep (hb4.out.trans (kV.out.mono hb4.out.size))).ss hD.out.n hD.out.cap hD.out.keys hE3.out.es (by omega) (Ld.keep hL.out (hb4.out.trans (kV.out.mono hb4.out.size)))
                          rw [← hcm.out, ← hsv.out, ← hse.out] at hcS
                          go_simp
                          go_wp2_with (go_at_call 8; refine hcS.mono ?_; rintro e V ⟨rfl, b9⟩; have kE := Lib.hid (kV.out.trans (b9.mono kV.out.size)))
                          first | (refine hK _ _ ?_; clear hK K) | skip
                          refine wpAny_take (i := 8) (v := ?_) rfl (by kernel_rfl) (by kernel_rfl) (by kernel_rfl) (fun _ _ _ h => h) (Or.inl ⟨by rfl, by intro w; go_simp; first | done | with_reducible rfl⟩) ?_
                          simp only [List.getElem_toArray, List.getElem_cons_succ, List.getElem_cons_zero, Act.put, List.setIfInBounds_toArray, List.set_cons_zero, List.set_cons_succ]
                          refine wpAny_take (i := 9) (v := ?_) rfl (by kernel_rfl) (by kernel_rfl) (by kernel_rfl) (fun _ _ _ h => h) (Or.inl ⟨by rfl, by intro w; go_simp; first | done | with_reducible rfl⟩) ?_
                          simp only [List.getElem_toArray, List.getElem_cons_succ, List.getElem_cons_zero, Act.put, List.setIfInBounds_toArray, List.set_cons_zero, List.set_cons_succ]
                          refine wpAny_take (i := 10) (v := ?_) rfl (by kernel_rfl) (by kernel_rfl) (by kernel_rfl) (fun _ _ _ h => h) (Or.inl ⟨by rfl, by intro w; go_simp; first | done | with_reducible rfl⟩) ?_
                          simp only [List.getElem_toArray, List.getElem_cons_succ, List.getElem_cons_zero, Act.put, List.setIfInBounds_toArray, List.set_cons_zero, List.set_cons_succ]
                          refine wpAny_take (i := 11) (v := ?_) rfl (by kernel_rfl) (by kernel_rfl) (by kernel_rfl) (fun _ _ _ h => h) (Or.inl ⟨by rfl, by intro w; go_simp; first | done | with_reducible rfl⟩) ?_
                          simp only [List.getElem_toArray, List.getElem_cons_succ, List.getElem_cons_zero, Act.put, List.setIfInBounds_toArray, List.set_cons_zero, List.set_cons_succ]
                          refine wpAny_take (i := 12) (v := ?_) rfl (by kernel_rfl) (by kernel_rfl) (by kernel_rfl) (fun _ _ _ h => h) (Or.inl ⟨by rfl, by intro w; go_simp; first | done | with_reducible rfl⟩) ?_
                          simp only [List.getElem_toArray, List.getElem_cons_succ, List.getElem_cons_zero, Act.put, List.setIfInBounds_toArray, List.set_cons_zero, List.set_cons_succ]
                          refine wpAny_done (by kernel_rfl) ?_ _
                          go_wp2_with (fail)
                          go_meet
                          exact ⟨rfl, rfl, kE.out⟩
                        exact AllReady.nil
                      exact AllReady.nil
                    refine AllReady.cons rfl (fun K hK => ?_) ?_
                    · have hK' := hK; clear hK; have hK := hK'; clear hK'
                      obtain ⟨A3', c3', V, hrun, hE3, hgr⟩ := cat2 (d := dl0) hE1.out (SL.keep hE.out (hb4.out.trans (kV.out.mono hb4.out.size))) (by omega) (by omega)
                      go_simp
                      refine hK _ _ ?_
                      clear hK K
                      clear hrun hgr
                      have kV1 := Lib.hid hE3.bel
                      replace hE3 := Lib.hid hE3
                      clear kV hE1; have kV := kV1; clear kV1
                      refine wpAny_ready (rs := [0]) (by kernel_rfl) (by simp) ?_
                      refine AllReady.cons rfl (fun K hK => ?_) ?_
                      · have hK' := hK; clear hK; have hK := hK'; clear hK'
                        have hq := (kV.out.block _ (blkX hh4.out)).trans hh4.out
                        have x0 := blkC hq 0
                        have x1 := blkC hq 1
                        have x2 := blkC hq 2
                        have x3 := blkC hq 3
                        simp only [List.getElem?_toArray, List.getElem?_cons_zero, List.getElem?_cons_succ] at x0 x1 x2 x3
                        replace hq := Lib.hid hq
                        go_simp
                        refine hK _ _ ?_
                        clear hK K
                        clear x0 x1 x2 x3 hq
                        refine wpAny_ready (rs := [7]) (by kernel_rfl) (by simp) ?_
                        refine AllReady.cons rfl (fun K hK => ?_) ?_
                        · have hK' := hK; clear hK; have hK := hK'; clear hK'
                          have hcS := sum_any nm r dl A n c ss A3' (m2 + m) c3' (l2 ++ l) key V (hD.out.keep (hb4.out.trans (kV.out.mono hb4.out.size))).nm (hD.out.keep (hb4.out.trans (kV.out.mono hb4.out.size))).ss hD.out.n hD.out.cap hD.out.keys hE3.out.es (by omega) (Ld.keep hL.out (hb4.out.trans (kV.out.mono hb4.out.size)))
                          rw [← hcm.out, ← hsv.out, ← hse.out] at hcS
                          go_simp
                          go_wp2_with (go_at_call 8; refine hcS.mono ?_; rintro e V ⟨rfl, b9⟩; have kE := Lib.hid (kV.out.trans (b9.mono kV.out.size)))
                          first | (refine hK _ _ ?_; clear hK K) | skip
                          refine wpAny_take (i := 8) (v := ?_) rfl (by kernel_rfl) (by kernel_rfl) (by kernel_rfl) (fun _ _ _ h => h) (Or.inl ⟨by rfl, by intro w; go_simp; first | done | with_reducible rfl⟩) ?_
                          simp only [List.getElem_toArray, List.getElem_cons_succ, List.getElem_cons_zero, Act.put, List.setIfInBounds_toArray, List.set_cons_zero, List.set_cons_succ]
                          refine wpAny_take (i := 9) (v := ?_) rfl (by kernel_rfl) (by kernel_rfl) (by kernel_rfl) (fun _ _ _ h => h) (Or.inl ⟨by rfl, by intro w; go_simp; first | done | with_reducible rfl⟩) ?_
                          simp only [List.getElem_toArray, List.getElem_cons_succ, List.getElem_cons_zero, Act.put, List.setIfInBounds_toArray, List.set_cons_zero, List.set_cons_succ]
                          refine wpAny_take (i := 10) (v := ?_) rfl (by kernel_rfl) (by kernel_rfl) (by kernel_rfl) (fun _ _ _ h => h) (Or.inl ⟨by rfl, by intro w; go_simp; first | done | with_reducible rfl⟩) ?_
                          simp only [List.getElem_toArray, List.getElem_cons_succ, List.getElem_cons_zero, Act.put, List.setIfInBounds_toArray, List.set_cons_zero, List.set_cons_succ]
                          refine wpAny_take (i := 11) (v := ?_) rfl (by kernel_rfl) (by kernel_rfl) (by kernel_rfl) (fun _ _ _ h => h) (Or.inl ⟨by rfl, by intro w; go_simp; first | done | with_reducible rfl⟩) ?_
                          simp only [List.getElem_toArray, List.getElem_cons_succ, List.getElem_cons_zero, Act.put, List.setIfInBounds_toArray, List.set_cons_zero, List.set_cons_succ]
                          refine wpAny_take (i := 12) (v := ?_) rfl (by kernel_rfl) (by kernel_rfl) (by kernel_rfl) (fun _ _ _ h => h) (Or.inl ⟨by rfl, by intro w; go_simp; first | done | with_reducible rfl⟩) ?_
                          simp only [List.getElem_toArray, List.getElem_cons_succ, List.getElem_cons_zero, Act.put, List.setIfInBounds_toArray, List.set_cons_zero, List.set_cons_succ]
                          refine wpAny_done (by kernel_rfl) ?_ _
                          go_wp2_with (fail)
                          go_meet
                          exact ⟨rfl, rfl, kE.out⟩
                        exact AllReady.nil
                      exact AllReady.nil
                    exact AllReady.nil
                  exact AllReady.nil
                exact AllReady.nil
            case rest =>
              obtain ⟨rfl, rfl, b5⟩ := hcut
              have hb5 := Lib.hid (hb4.out.trans (b5.mono hb4.out.size))
              clear b5 hh4
              have hva' := hva.out; have hvb' := hvb.out; have hadd' := hadd.out
              rw [hav.out, hae.out] at hva'
              rw [hbv.out, hbe.out] at hvb'
              rw [hae.out, hbe.out, hav.out, hbv.out] at hadd'
              by_cases q1 : ae = 0
              · by_cases q2 : be = 0
                · obtain ⟨o1, o2, o3⟩ := hadd' q1 q2
                  have hs1 := hsv.out; have hs2 := hse.out
                  rw [o3] at hs1 hs2
                  rw [okV_iff] at o1 o2
                  have q1b : (ae != 0) = false := by simp [q1]
                  have q2b : (be != 0) = false := by simp [q2]
                  clear hva' hvb' hadd' o3
                  replace q1 := Lib.hid q1; replace q2 := Lib.hid q2
                  by_cases hv : okV (av + bv) = true
                  · rw [if_pos hv] at hs1 hs2
                    have hv' := (okV_iff _).1 hv
                    obtain ⟨sm, hsm⟩ : ∃ sm, sm = av + bv := ⟨_, rfl⟩
                    have hsm' : av + bv = sm := hsm.symm
                    have v1 : -1152921504606846976 ≤ sm := by omega
                    have v2 : sm ≤ 1152921504606846976 := by omega
                    simp only at hs1 hs2
                    have hs3 : sv = sm := by rw [hs1, hsm]
                    clear hs1
                    subst hs2 hs3
                    replace hv := Lib.hid hv; replace hsm := Lib.hid hsm
                    go_wp2_with (fail)
                    refine (works_any _).mono ?_
                    rintro e w9 ⟨rfl, b9⟩
                    go_wp2_with (fail)
                    go_ret
                    exact ⟨rfl, hb5.out.trans (b9.mono hb5.out.size)⟩
                  · rw [if_neg hv] at hs1 hs2
                    have hv' : ¬ (-1152921504606846976 ≤ av + bv ∧ av + bv ≤ 1152921504606846976) := fun q => hv ((okV_iff _).2 q)
                    simp only at hs1 hs2
                    subst hs1 hs2
                    replace hv := Lib.hid hv
                    by_cases v1 : -1152921504606846976 ≤ av + bv
                    · have v2 : ¬ av + bv ≤ 1152921504606846976 := fun q => hv' ⟨v1, q⟩
                      clear hv'
                      go_wp2_with (fail)
                      refine (works_any _).mono ?_
                      rintro e w9 ⟨rfl, b9⟩
                      go_wp2_with (fail)
                      go_ret
                      exact ⟨rfl, hb5.out.trans (b9.mono hb5.out.size)⟩
                    · clear hv'
                      go_wp2_with (fail)
                      refine (works_any _).mono ?_
                      rintro e w9 ⟨rfl, b9⟩
                      go_wp2_with (fail)
                      go_ret
                      exact ⟨rfl, hb5.out.trans (b9.mono hb5.out.size)⟩
                · have q2b : (be != 0) = true := by simp [q2]
                  have q2c : (be == 0) = false := beq_false_of_ne q2
                  have q1b : (ae != 0) = false := by simp [q1]
                  have q1c : (ae == 0) = true := by simp [q1]
                  have q3 : bv = 0 := by rcases hvb' with h | h; exact absurd h q2; exact h
                  clear hva' hvb' hadd'
                  replace q1 := Lib.hid q1; replace q2 := Lib.hid q2
                  have q3c : (bv == 0) = true := by simp [q3]
                  replace q3 := Lib.hid q3
                  by_cases q4 : (av == 0) = true
                  · skip
                    go_wp2_with (fail)
                    refine (works_any _).mono ?_
                    rintro e w9 ⟨rfl, b9⟩
                    go_wp2_with (fail)
                    go_ret
                    exact ⟨rfl, hb5.out.trans (b9.mono hb5.out.size)⟩
                  · replace q4 : (av == 0) = false := by simpa using q4
                    go_wp2_with (fail)
                    refine (works_any _).mono ?_
                    rintro e w9 ⟨rfl, b9⟩
                    go_wp2_with (fail)
                    go_ret
                    exact ⟨rfl, hb5.out.trans (b9.mono hb5.out.size)⟩
              · have q1b : (ae != 0) = true := by simp [q1]
                have q1c : (ae == 0) = false := beq_false_of_ne q1
                have q3 : av = 0 := by rcases hva' with h | h; exact absurd h q1; exact h
                have q3c : (av == 0) = true := by simp [q3]
                by_cases q5 : bv = 0
                · have q5c : (bv == 0) = true := by simp [q5]
                  clear hva' hvb' hadd'
                  replace q1 := Lib.hid q1; replace q3 := Lib.hid q3; replace q5 := Lib.hid q5
                  go_wp2_with (fail)
                  refine (works_any _).mono ?_
                  rintro e w9 ⟨rfl, b9⟩
                  go_wp2_with (fail)
                  go_ret
                  exact ⟨rfl, hb5.out.trans (b9.mono hb5.out.size)⟩
                · have q5c : (bv == 0) = false := beq_false_of_ne q5
                  have q6 : be = 0 := by rcases hvb' with h | h; exact h; exact absurd h q5
                  have q6c : (be == 0) = true := by simp [q6]
                  clear hva' hvb' hadd'
                  replace q1 := Lib.hid q1; replace q3 := Lib.hid q3; replace q5 := Lib.hid q5; replace q6 := Lib.hid q6
                  go_wp2_with (fail)
                  refine (works_any _).mono ?_
                  rintro e w9 ⟨rfl, b9⟩
                  go_wp2_with (fail)
                  go_ret
                  exact ⟨rfl, hb5.out.trans (b9.mono hb5.out.size)⟩
      · have m2i : (40 : Int) < m2 := by omega
        replace hD := Lib.hid hD; replace hE := Lib.hid hE; replace hE2 := Lib.hid hE2; replace kb := Lib.hid kb; replace hnew := Lib.hid hnew; replace hL := Lib.hid hL
        go_enter Tryd.func3, Tryd.ntmps3
        go_wp2_with (fail)
        refine (hs).mono ?_
        rintro e w1 ⟨rfl, b1⟩
        have hh1 := (b1.block _ (by simp)).trans hnew.out
        have x0 := blkC hh1 0
        have x1 := blkC hh1 1
        have x2 := blkC hh1 2
        have x3 := blkC hh1 3
        simp only [List.getElem?_toArray, List.getElem?_cons_zero, List.getElem?_cons_succ] at x0 x1 x2 x3
        have hb1 := Lib.hid (kb.out.trans (b1.mono kb.out.size))
        replace hh1 := Lib.hid hh1
        clear b1
        clear x0 x1 x2 x3
        go_wp2_with (fail)
        refine (works_any _).mono ?_
        rintro e w9 ⟨rfl, b9⟩
        go_wp2_with (fail)
        go_ret
        exact ⟨rfl, hb1.out.trans (b9.mono hb1.out.size)⟩
    · have m1i : (40 : Int) < m := by omega
      replace hD := Lib.hid hD; replace hE := Lib.hid hE; replace hE2 := Lib.hid hE2; replace kb := Lib.hid kb; replace hnew := Lib.hid hnew; replace hL := Lib.hid hL
      go_enter Tryd.func3, Tryd.ntmps3
      go_wp2_with (fail)
      refine (hs).mono ?_
      rintro e w1 ⟨rfl, b1⟩
      have hh1 := (b1.block _ (by simp)).trans hnew.out
      have x0 := blkC hh1 0
      have x1 := blkC hh1 1
      have x2 := blkC hh1 2
      have x3 := blkC hh1 3
      simp only [List.getElem?_toArray, List.getElem?_cons_zero, List.getElem?_cons_succ] at x0 x1 x2 x3
      have hb1 := Lib.hid (kb.out.trans (b1.mono kb.out.size))
      replace hh1 := Lib.hid hh1
      clear b1
      clear x0 x1 x2 x3
      go_wp2_with (fail)
      refine (works_any _).mono ?_
      rintro e w9 ⟨rfl, b9⟩
      go_wp2_with (fail)
      go_ret
      exact ⟨rfl, hb1.out.trans (b9.mono hb1.out.size)⟩
end Go.Proofs.YthmkfbabacehnaaDoor
