/- Definitions and their effects: whether they are allowed: the document's. -/
import Derived.Test.YthmkfbabacehnaaDoorChkD
import Derived.Test.YthmkfbabacehnaaDoorRDefn
import Derived.Deep.RegionHeld3
namespace Go.Proofs.YthmkfbabacehnaaDoor
open Go.RowKit Go.Shelf
set_option linter.unusedSimpArgs false
set_option linter.unusedVariables false
set_option linter.unusedSectionVars false
set_option maxRecDepth 10000
theorem defC_ne {nm : ByteArray} {r dl : Int} {ss : List St} (h : ¬ defC nm r dl ss = 0) : defC nm r dl ss = 15 := by
  unfold defC at *; split
  · rename_i q; rw [if_pos q] at h; exact absurd rfl h
  · rfl
set_option maxHeartbeats 8000000 in
theorem rchk_any (nm : ByteArray) (r dl : Int) (A : Option Addr) (n c : Nat) (ss : List St) (B : Option Addr) (m d : Nat) (l : List Ef) (w : World) (hnm : nm.size ≤ 140737488355328) (h : SS w A n ss) (hn : n ≤ 140737488355328) (hnc : n ≤ c) (hkeys : ∀ x ∈ ss, x.1.size ≤ 140737488355328) (hE : ES w B m l) (hm : m ≤ 140737488355328) :
    Calls Tryd.prog 21 #[.agg #[.string nm, .int .i64 r, .int .i64 dl, .slice A n c], .slice B m d] w fun e w' => e = .returned (.int .i64 (chkC nm r dl ss l)) ∧ Below w.heap.size w w' := by
  have hl := hE.1
  have hsl := h.1
  have kb := (Below.refl w.heap.size w).alloc (Nat.le_refl _) (.cells #[.string nm, .int .i64 r, .int .i64 dl, .slice A n c] 24)
  have hD0 := rdefn_any nm r dl A n c ss _ hnm (SL.keep h kb) hn hkeys
  have hnew := hpNew w (.cells #[.string nm, .int .i64 r, .int .i64 dl, .slice A n c] 24)
  replace h := Lib.hid h; replace hkeys := Lib.hid hkeys; replace hE := Lib.hid hE; replace hl := Lib.hid hl; replace hsl := Lib.hid hsl; replace kb := Lib.hid kb; replace hnew := Lib.hid hnew
  by_cases hz : defC nm r dl ss = 0
  · rw [hz] at hD0
    by_cases hmany : 10000 < m
    · have hmi : (10000 : Int) < m := by omega
      have hf := Lib.hid (chkC_many (l := l) hz (by rw [hl.out]; exact hmany))
      replace hz := Lib.hid hz
      go_enter Tryd.func21, Tryd.ntmps21
      go_wp2_with (fail)
      refine hD0.mono ?_
      rintro e w1 ⟨rfl, b1⟩
      go_wp2_with (fail)
      go_ret
      exact ⟨by rw [hf.out]; rfl, kb.out.trans (b1.mono kb.out.size)⟩
    · have hmi : ¬ (10000 : Int) < m := by omega
      have hfine := Lib.hid (fun q => chkC_fine (l := l) hz (by rw [hl.out]; exact hmany) (by rw [hsl.out]; exact q))
      have hno := Lib.hid (fun q => chkC_no (l := l) hz (by rw [hl.out]; exact hmany) (by rw [hsl.out]; exact q))
      replace hz := Lib.hid hz
      go_enter Tryd.func21, Tryd.ntmps21
      go_wp2_with (fail)
      refine hD0.mono ?_
      rintro e w1 ⟨rfl, b1⟩
      have hh1 := (b1.block _ (by simp)).trans hnew.out
      have g3 := blkC hh1 3
      simp only [List.getElem?_toArray, List.getElem?_cons_zero, List.getElem?_cons_succ] at g3
      have hb1 := kb.out.trans (b1.mono kb.out.size)
      have hg1 := blkX hh1
      replace hb1 := Lib.hid hb1
      replace hh1 := Lib.hid hh1
      clear b1
      go_wp2_with (fail)
      go_loopw [5] (fun i wr => ∃ k : Nat, k ≤ m ∧ i = .int .i64 k ∧ (l.take k).all (okA n) = true ∧ Below w.heap.size w wr ∧ w.heap.size < wr.heap.size ∧ wr.cell? ⟨w.heap.size, 3, none⟩ = some (.slice A n c)) (fun i _ => m - (intOf i).toNat)
      case atStart => exact ⟨0, by omega, rfl, by simp, hb1.out, hg1, g3⟩
      case round =>
        clear g3 hg1 hh1 hb1 hD0
        revert wr
        intro W1 hrel
        obtain ⟨k, hkm, rfl, hgood, hb5, hw5, q3⟩ := hrel
        by_cases hlt : k < m
        · obtain ⟨b, o, ⟨x0, x1, x2⟩, rfl, hbl, hx, e0, e1, e2⟩ := ES.at_ (SL.keep hE.out hb5) hlt
          simp only at e0 e1 e2
          have hc := fun V => rcheckE_any x0 x1 x2 V
          have j0 : (0 : Int) ≤ k := by omega
          have j1 : (k : Int) < m := by omega
          have hA := okA_take (n := n) hx
          rw [hgood, Bool.true_and] at hA
          have hbad := Lib.hid (fun q => hno.out (okA_bad (n := n) hx q))
          have hoki := Lib.hid (okA_iff2 n (x0, x1, x2))
          replace hgood := Lib.hid hgood; replace hx := Lib.hid hx; replace hA := Lib.hid hA; replace hb5 := Lib.hid hb5
          by_cases hok : okE (x0, x1, x2) = true
          · rw [chkE_ok hok] at hc
            by_cases hs : x1 < n
            · have d1 : decide ((n : Int) ≤ x1) = false := by simp; omega
              have hz : (l.take (k + 1)).all (okA n) = true := by rw [hA.out]; exact hoki.out.2 ⟨hok, hs⟩
              replace hz := Lib.hid hz; replace hok := Lib.hid hok
              go_wp2_with (fail)
              refine wp_region_any (by kernel_rfl) ?_
              try (change wpAny _ _ _ _ _ _ _ (World.drew _))
              have hV := Lib.hid (hb5.out.trans ((Below.refl W1.heap.size W1).drew.mono hb5.out.size))
              have hbV : b < W1.drew.heap.size := hbl
              have hgV : w.heap.size < W1.drew.heap.size := hw5
              replace e0 : W1.drew.cell? ⟨b, o + k * 3, none⟩ = _ := e0
              replace e1 : W1.drew.cell? ⟨b, o + k * 3 + 1, none⟩ = _ := e1
              replace e2 : W1.drew.cell? ⟨b, o + k * 3 + 2, none⟩ = _ := e2
              replace g3 : W1.drew.cell? ⟨w.heap.size, 3, none⟩ = _ := q3
              clear q3
              generalize W1.drew = V at *
              refine wpAny_take (i := 0) (v := ?_) rfl (by kernel_rfl) (by kernel_rfl) (by kernel_rfl) (fun _ _ _ h => h) (Or.inl ⟨by rfl, by intro w; go_simp; first | done | with_reducible rfl⟩) ?_
              simp only [List.getElem_toArray, List.getElem_cons_succ, List.getElem_cons_zero, Act.put, List.setIfInBounds_toArray, List.set_cons_zero, List.set_cons_succ]
              refine wpAny_take (i := 1) (v := ?_) rfl (by kernel_rfl) (by kernel_rfl) (by kernel_rfl) (fun _ _ _ h => h) (Or.inl ⟨by rfl, by intro w; go_simp; first | done | with_reducible rfl⟩) ?_
              simp only [List.getElem_toArray, List.getElem_cons_succ, List.getElem_cons_zero, Act.put, List.setIfInBounds_toArray, List.set_cons_zero, List.set_cons_succ]
              refine wpAny_take (i := 2) (v := ?_) rfl (by kernel_rfl) (by kernel_rfl) (by kernel_rfl) (fun _ _ _ h => h) (Or.inl ⟨by rfl, by intro w; go_simp; first | done | with_reducible rfl⟩) ?_
              simp only [List.getElem_toArray, List.getElem_cons_succ, List.getElem_cons_zero, Act.put, List.setIfInBounds_toArray, List.set_cons_zero, List.set_cons_succ]
              refine wpAny_ready (rs := [3]) (by kernel_rfl) (by simp) ?_
              refine AllReady.cons rfl (fun K hK => ?_) ?_
              · have hK' := hK; clear hK; have hK := hK'; clear hK'
                go_simp
                refine hK _ _ ?_
                clear hK K
                refine wpAny_ready (rs := [4]) (by kernel_rfl) (by simp) ?_
                refine AllReady.cons rfl (fun K hK => ?_) ?_
                · have hK' := hK; clear hK; have hK := hK'; clear hK'
                  go_simp
                  go_wp2_with (go_at_call 37; refine (hc _).mono ?_; rintro e w6 ⟨rfl, b6⟩)
                  have c1 := (b6.cell (p := ⟨b, o + k * 3 + 1, none⟩) hbV).trans e1
                  have c3 := (b6.cell (p := ⟨w.heap.size, 3, none⟩) hgV).trans g3
                  have h6 := Lib.hid (hV.out.trans (b6.mono hV.out.size))
                  have hw6 := Nat.lt_of_lt_of_le hgV b6.size
                  clear b6 e0 e1 e2 g3
                  first | (refine hK _ _ ?_; clear hK K) | skip
                  refine wpAny_take (i := 5) (v := ?_) rfl (by kernel_rfl) (by kernel_rfl) (by kernel_rfl) (fun _ _ _ h => h) (Or.inl ⟨by rfl, by intro w; go_simp; first | done | with_reducible rfl⟩) ?_
                  simp only [List.getElem_toArray, List.getElem_cons_succ, List.getElem_cons_zero, Act.put, List.setIfInBounds_toArray, List.set_cons_zero, List.set_cons_succ]
                  refine wpAny_take (i := 6) (v := ?_) rfl (by kernel_rfl) (by kernel_rfl) (by kernel_rfl) (fun _ _ _ h => h) (Or.inl ⟨by rfl, by intro w; go_simp; first | done | with_reducible rfl⟩) ?_
                  simp only [List.getElem_toArray, List.getElem_cons_succ, List.getElem_cons_zero, Act.put, List.setIfInBounds_toArray, List.set_cons_zero, List.set_cons_succ]
                  refine wpAny_take (i := 7) (v := ?_) rfl (by kernel_rfl) (by kernel_rfl) (by kernel_rfl) (fun _ _ _ h => h) (Or.inl ⟨by rfl, by intro w; go_simp; first | done | with_reducible rfl⟩) ?_
                  simp only [List.getElem_toArray, List.getElem_cons_succ, List.getElem_cons_zero, Act.put, List.setIfInBounds_toArray, List.set_cons_zero, List.set_cons_succ]
                  refine wpAny_take (i := 8) (v := ?_) rfl (by kernel_rfl) (by kernel_rfl) (by kernel_rfl) (fun _ _ _ h => h) (Or.inl ⟨by rfl, by intro w; go_simp; first | done | with_reducible rfl⟩) ?_
                  simp only [List.getElem_toArray, List.getElem_cons_succ, List.getElem_cons_zero, Act.put, List.setIfInBounds_toArray, List.set_cons_zero, List.set_cons_succ]
                  refine wpAny_take (i := 9) (v := ?_) rfl (by kernel_rfl) (by kernel_rfl) (by kernel_rfl) (fun _ _ _ h => h) (Or.inl ⟨by rfl, by intro w; go_simp; first | done | with_reducible rfl⟩) ?_
                  simp only [List.getElem_toArray, List.getElem_cons_succ, List.getElem_cons_zero, Act.put, List.setIfInBounds_toArray, List.set_cons_zero, List.set_cons_succ]
                  refine wpAny_take (i := 10) (v := ?_) rfl (by kernel_rfl) (by kernel_rfl) (by kernel_rfl) (fun _ _ _ h => h) (Or.inl ⟨by rfl, by intro w; go_simp; first | done | with_reducible rfl⟩) ?_
                  simp only [List.getElem_toArray, List.getElem_cons_succ, List.getElem_cons_zero, Act.put, List.setIfInBounds_toArray, List.set_cons_zero, List.set_cons_succ]
                  refine wpAny_take (i := 12) (v := ?_) rfl (by kernel_rfl) (by kernel_rfl) (by kernel_rfl) (fun _ _ _ h => h) (Or.inl ⟨by rfl, by intro w; go_simp; first | done | with_reducible rfl⟩) ?_
                  simp only [List.getElem_toArray, List.getElem_cons_succ, List.getElem_cons_zero, Act.put, List.setIfInBounds_toArray, List.set_cons_zero, List.set_cons_succ]
                  refine wpAny_ready (rs := [11, 13]) (by kernel_rfl) (by simp) ?_
                  refine AllReady.cons rfl (fun K hK => ?_) ?_
                  · have hK' := hK; clear hK; have hK := hK'; clear hK'
                    go_simp
                    refine hK _ _ ?_
                    clear hK K
                    refine wpAny_ready (rs := [13]) (by kernel_rfl) (by simp) ?_
                    refine AllReady.cons rfl (fun K hK => ?_) ?_
                    · have hK' := hK; clear hK; have hK := hK'; clear hK'
                      go_simp
                      refine hK _ _ ?_
                      clear hK K
                      refine wpAny_take (i := 14) (v := ?_) rfl (by kernel_rfl) (by kernel_rfl) (by kernel_rfl) (fun _ _ _ h => h) (Or.inl ⟨by rfl, by intro w; go_simp; first | done | with_reducible rfl⟩) ?_
                      simp only [List.getElem_toArray, List.getElem_cons_succ, List.getElem_cons_zero, Act.put, List.setIfInBounds_toArray, List.set_cons_zero, List.set_cons_succ]
                      refine wpAny_take (i := 15) (v := ?_) rfl (by kernel_rfl) (by kernel_rfl) (by kernel_rfl) (fun _ _ _ h => h) (Or.inl ⟨by rfl, by intro w; go_simp; first | done | with_reducible rfl⟩) ?_
                      simp only [List.getElem_toArray, List.getElem_cons_succ, List.getElem_cons_zero, Act.put, List.setIfInBounds_toArray, List.set_cons_zero, List.set_cons_succ]
                      refine wpAny_take (i := 16) (v := ?_) rfl (by kernel_rfl) (by kernel_rfl) (by kernel_rfl) (fun _ _ _ h => h) (Or.inl ⟨by rfl, by intro w; go_simp; first | done | with_reducible rfl⟩) ?_
                      simp only [List.getElem_toArray, List.getElem_cons_succ, List.getElem_cons_zero, Act.put, List.setIfInBounds_toArray, List.set_cons_zero, List.set_cons_succ]
                      refine wpAny_done (by kernel_rfl) ?_ _
                      go_wp2_with (fail)
                      exact ⟨⟨k + 1, by omega, by go_num, hz.out, h6.out, hw6, c3⟩, by simp [intOf]; omega⟩
                    exact AllReady.nil
                  refine AllReady.cons rfl (fun K hK => ?_) ?_
                  · have hK' := hK; clear hK; have hK := hK'; clear hK'
                    go_simp
                    refine hK _ _ ?_
                    clear hK K
                    refine wpAny_take (i := 14) (v := ?_) rfl (by kernel_rfl) (by kernel_rfl) (by kernel_rfl) (fun _ _ _ h => h) (Or.inl ⟨by rfl, by intro w; go_simp; first | done | with_reducible rfl⟩) ?_
                    simp only [List.getElem_toArray, List.getElem_cons_succ, List.getElem_cons_zero, Act.put, List.setIfInBounds_toArray, List.set_cons_zero, List.set_cons_succ]
                    refine wpAny_ready (rs := [11]) (by kernel_rfl) (by simp) ?_
                    refine AllReady.cons rfl (fun K hK => ?_) ?_
                    · have hK' := hK; clear hK; have hK := hK'; clear hK'
                      go_simp
                      refine hK _ _ ?_
                      clear hK K
                      refine wpAny_take (i := 15) (v := ?_) rfl (by kernel_rfl) (by kernel_rfl) (by kernel_rfl) (fun _ _ _ h => h) (Or.inl ⟨by rfl, by intro w; go_simp; first | done | with_reducible rfl⟩) ?_
                      simp only [List.getElem_toArray, List.getElem_cons_succ, List.getElem_cons_zero, Act.put, List.setIfInBounds_toArray, List.set_cons_zero, List.set_cons_succ]
                      refine wpAny_take (i := 16) (v := ?_) rfl (by kernel_rfl) (by kernel_rfl) (by kernel_rfl) (fun _ _ _ h => h) (Or.inl ⟨by rfl, by intro w; go_simp; first | done | with_reducible rfl⟩) ?_
                      simp only [List.getElem_toArray, List.getElem_cons_succ, List.getElem_cons_zero, Act.put, List.setIfInBounds_toArray, List.set_cons_zero, List.set_cons_succ]
                      refine wpAny_done (by kernel_rfl) ?_ _
                      go_wp2_with (fail)
                      exact ⟨⟨k + 1, by omega, by go_num, hz.out, h6.out, hw6, c3⟩, by simp [intOf]; omega⟩
                    exact AllReady.nil
                  exact AllReady.nil
                exact AllReady.nil
              exact AllReady.nil
            · have d1 : decide ((n : Int) ≤ x1) = true := by simp; omega
              have hf := Lib.hid (hbad.out (by rw [Bool.eq_false_iff]; exact fun q => hs (hoki.out.1 q).2))
              replace hok := Lib.hid hok
              go_wp2_with (fail)
              refine wp_region_any (by kernel_rfl) ?_
              try (change wpAny _ _ _ _ _ _ _ (World.drew _))
              have hV := Lib.hid (hb5.out.trans ((Below.refl W1.heap.size W1).drew.mono hb5.out.size))
              have hbV : b < W1.drew.heap.size := hbl
              have hgV : w.heap.size < W1.drew.heap.size := hw5
              replace e0 : W1.drew.cell? ⟨b, o + k * 3, none⟩ = _ := e0
              replace e1 : W1.drew.cell? ⟨b, o + k * 3 + 1, none⟩ = _ := e1
              replace e2 : W1.drew.cell? ⟨b, o + k * 3 + 2, none⟩ = _ := e2
              replace g3 : W1.drew.cell? ⟨w.heap.size, 3, none⟩ = _ := q3
              clear q3
              generalize W1.drew = V at *
              refine wpAny_take (i := 0) (v := ?_) rfl (by kernel_rfl) (by kernel_rfl) (by kernel_rfl) (fun _ _ _ h => h) (Or.inl ⟨by rfl, by intro w; go_simp; first | done | with_reducible rfl⟩) ?_
              simp only [List.getElem_toArray, List.getElem_cons_succ, List.getElem_cons_zero, Act.put, List.setIfInBounds_toArray, List.set_cons_zero, List.set_cons_succ]
              refine wpAny_take (i := 1) (v := ?_) rfl (by kernel_rfl) (by kernel_rfl) (by kernel_rfl) (fun _ _ _ h => h) (Or.inl ⟨by rfl, by intro w; go_simp; first | done | with_reducible rfl⟩) ?_
              simp only [List.getElem_toArray, List.getElem_cons_succ, List.getElem_cons_zero, Act.put, List.setIfInBounds_toArray, List.set_cons_zero, List.set_cons_succ]
              refine wpAny_take (i := 2) (v := ?_) rfl (by kernel_rfl) (by kernel_rfl) (by kernel_rfl) (fun _ _ _ h => h) (Or.inl ⟨by rfl, by intro w; go_simp; first | done | with_reducible rfl⟩) ?_
              simp only [List.getElem_toArray, List.getElem_cons_succ, List.getElem_cons_zero, Act.put, List.setIfInBounds_toArray, List.set_cons_zero, List.set_cons_succ]
              refine wpAny_ready (rs := [3]) (by kernel_rfl) (by simp) ?_
              refine AllReady.cons rfl (fun K hK => ?_) ?_
              · have hK' := hK; clear hK; have hK := hK'; clear hK'
                go_simp
                refine hK _ _ ?_
                clear hK K
                refine wpAny_ready (rs := [4]) (by kernel_rfl) (by simp) ?_
                refine AllReady.cons rfl (fun K hK => ?_) ?_
                · have hK' := hK; clear hK; have hK := hK'; clear hK'
                  go_simp
                  go_wp2_with (go_at_call 37; refine (hc _).mono ?_; rintro e w6 ⟨rfl, b6⟩)
                  have c1 := (b6.cell (p := ⟨b, o + k * 3 + 1, none⟩) hbV).trans e1
                  have c3 := (b6.cell (p := ⟨w.heap.size, 3, none⟩) hgV).trans g3
                  have h6 := Lib.hid (hV.out.trans (b6.mono hV.out.size))
                  have hw6 := Nat.lt_of_lt_of_le hgV b6.size
                  clear b6 e0 e1 e2 g3
                  first | (refine hK _ _ ?_; clear hK K) | skip
                  refine wpAny_take (i := 5) (v := ?_) rfl (by kernel_rfl) (by kernel_rfl) (by kernel_rfl) (fun _ _ _ h => h) (Or.inl ⟨by rfl, by intro w; go_simp; first | done | with_reducible rfl⟩) ?_
                  simp only [List.getElem_toArray, List.getElem_cons_succ, List.getElem_cons_zero, Act.put, List.setIfInBounds_toArray, List.set_cons_zero, List.set_cons_succ]
                  refine wpAny_take (i := 6) (v := ?_) rfl (by kernel_rfl) (by kernel_rfl) (by kernel_rfl) (fun _ _ _ h => h) (Or.inl ⟨by rfl, by intro w; go_simp; first | done | with_reducible rfl⟩) ?_
                  simp only [List.getElem_toArray, List.getElem_cons_succ, List.getElem_cons_zero, Act.put, List.setIfInBounds_toArray, List.set_cons_zero, List.set_cons_succ]
                  refine wpAny_take (i := 7) (v := ?_) rfl (by kernel_rfl) (by kernel_rfl) (by kernel_rfl) (fun _ _ _ h => h) (Or.inl ⟨by rfl, by intro w; go_simp; first | done | with_reducible rfl⟩) ?_
                  simp only [List.getElem_toArray, List.getElem_cons_succ, List.getElem_cons_zero, Act.put, List.setIfInBounds_toArray, List.set_cons_zero, List.set_cons_succ]
                  refine wpAny_take (i := 8) (v := ?_) rfl (by kernel_rfl) (by kernel_rfl) (by kernel_rfl) (fun _ _ _ h => h) (Or.inl ⟨by rfl, by intro w; go_simp; first | done | with_reducible rfl⟩) ?_
                  simp only [List.getElem_toArray, List.getElem_cons_succ, List.getElem_cons_zero, Act.put, List.setIfInBounds_toArray, List.set_cons_zero, List.set_cons_succ]
                  refine wpAny_take (i := 9) (v := ?_) rfl (by kernel_rfl) (by kernel_rfl) (by kernel_rfl) (fun _ _ _ h => h) (Or.inl ⟨by rfl, by intro w; go_simp; first | done | with_reducible rfl⟩) ?_
                  simp only [List.getElem_toArray, List.getElem_cons_succ, List.getElem_cons_zero, Act.put, List.setIfInBounds_toArray, List.set_cons_zero, List.set_cons_succ]
                  refine wpAny_take (i := 10) (v := ?_) rfl (by kernel_rfl) (by kernel_rfl) (by kernel_rfl) (fun _ _ _ h => h) (Or.inl ⟨by rfl, by intro w; go_simp; first | done | with_reducible rfl⟩) ?_
                  simp only [List.getElem_toArray, List.getElem_cons_succ, List.getElem_cons_zero, Act.put, List.setIfInBounds_toArray, List.set_cons_zero, List.set_cons_succ]
                  refine wpAny_take (i := 12) (v := ?_) rfl (by kernel_rfl) (by kernel_rfl) (by kernel_rfl) (fun _ _ _ h => h) (Or.inl ⟨by rfl, by intro w; go_simp; first | done | with_reducible rfl⟩) ?_
                  simp only [List.getElem_toArray, List.getElem_cons_succ, List.getElem_cons_zero, Act.put, List.setIfInBounds_toArray, List.set_cons_zero, List.set_cons_succ]
                  refine wpAny_ready (rs := [11, 13]) (by kernel_rfl) (by simp) ?_
                  refine AllReady.cons rfl (fun K hK => ?_) ?_
                  · have hK' := hK; clear hK; have hK := hK'; clear hK'
                    go_simp
                    refine hK _ _ ?_
                    clear hK K
                    refine wpAny_ready (rs := [13]) (by kernel_rfl) (by simp) ?_
                    refine AllReady.cons rfl (fun K hK => ?_) ?_
                    · have hK' := hK; clear hK; have hK := hK'; clear hK'
                      go_simp
                      refine hK _ _ ?_
                      clear hK K
                      refine wpAny_take (i := 14) (v := ?_) rfl (by kernel_rfl) (by kernel_rfl) (by kernel_rfl) (fun _ _ _ h => h) (Or.inl ⟨by rfl, by intro w; go_simp; first | done | with_reducible rfl⟩) ?_
                      simp only [List.getElem_toArray, List.getElem_cons_succ, List.getElem_cons_zero, Act.put, List.setIfInBounds_toArray, List.set_cons_zero, List.set_cons_succ]
                      refine wpAny_take (i := 15) (v := ?_) rfl (by kernel_rfl) (by kernel_rfl) (by kernel_rfl) (fun _ _ _ h => h) (Or.inl ⟨by rfl, by intro w; go_simp; first | done | with_reducible rfl⟩) ?_
                      simp only [List.getElem_toArray, List.getElem_cons_succ, List.getElem_cons_zero, Act.put, List.setIfInBounds_toArray, List.set_cons_zero, List.set_cons_succ]
                      refine wpAny_take (i := 16) (v := ?_) rfl (by kernel_rfl) (by kernel_rfl) (by kernel_rfl) (fun _ _ _ h => h) (Or.inl ⟨by rfl, by intro w; go_simp; first | done | with_reducible rfl⟩) ?_
                      simp only [List.getElem_toArray, List.getElem_cons_succ, List.getElem_cons_zero, Act.put, List.setIfInBounds_toArray, List.set_cons_zero, List.set_cons_succ]
                      refine wpAny_done (by kernel_rfl) ?_ _
                      go_wp2_with (fail)
                      go_ret
                      exact ⟨by rw [hf.out]; rfl, h6.out⟩
                    exact AllReady.nil
                  refine AllReady.cons rfl (fun K hK => ?_) ?_
                  · have hK' := hK; clear hK; have hK := hK'; clear hK'
                    go_simp
                    refine hK _ _ ?_
                    clear hK K
                    refine wpAny_take (i := 14) (v := ?_) rfl (by kernel_rfl) (by kernel_rfl) (by kernel_rfl) (fun _ _ _ h => h) (Or.inl ⟨by rfl, by intro w; go_simp; first | done | with_reducible rfl⟩) ?_
                    simp only [List.getElem_toArray, List.getElem_cons_succ, List.getElem_cons_zero, Act.put, List.setIfInBounds_toArray, List.set_cons_zero, List.set_cons_succ]
                    refine wpAny_ready (rs := [11]) (by kernel_rfl) (by simp) ?_
                    refine AllReady.cons rfl (fun K hK => ?_) ?_
                    · have hK' := hK; clear hK; have hK := hK'; clear hK'
                      go_simp
                      refine hK _ _ ?_
                      clear hK K
                      refine wpAny_take (i := 15) (v := ?_) rfl (by kernel_rfl) (by kernel_rfl) (by kernel_rfl) (fun _ _ _ h => h) (Or.inl ⟨by rfl, by intro w; go_simp; first | done | with_reducible rfl⟩) ?_
                      simp only [List.getElem_toArray, List.getElem_cons_succ, List.getElem_cons_zero, Act.put, List.setIfInBounds_toArray, List.set_cons_zero, List.set_cons_succ]
                      refine wpAny_take (i := 16) (v := ?_) rfl (by kernel_rfl) (by kernel_rfl) (by kernel_rfl) (fun _ _ _ h => h) (Or.inl ⟨by rfl, by intro w; go_simp; first | done | with_reducible rfl⟩) ?_
                      simp only [List.getElem_toArray, List.getElem_cons_succ, List.getElem_cons_zero, Act.put, List.setIfInBounds_toArray, List.set_cons_zero, List.set_cons_succ]
                      refine wpAny_done (by kernel_rfl) ?_ _
                      go_wp2_with (fail)
                      go_ret
                      exact ⟨by rw [hf.out]; rfl, h6.out⟩
                    exact AllReady.nil
                  exact AllReady.nil
                exact AllReady.nil
              exact AllReady.nil
          · rw [chkE_bad hok] at hc
            have hf := Lib.hid (hbad.out (by rw [Bool.eq_false_iff]; exact fun q => hok (hoki.out.1 q).1))
            replace hok := Lib.hid hok
            go_wp2_with (fail)
            refine wp_region_any (by kernel_rfl) ?_
            try (change wpAny _ _ _ _ _ _ _ (World.drew _))
            have hV := Lib.hid (hb5.out.trans ((Below.refl W1.heap.size W1).drew.mono hb5.out.size))
            have hbV : b < W1.drew.heap.size := hbl
            have hgV : w.heap.size < W1.drew.heap.size := hw5
            replace e0 : W1.drew.cell? ⟨b, o + k * 3, none⟩ = _ := e0
            replace e1 : W1.drew.cell? ⟨b, o + k * 3 + 1, none⟩ = _ := e1
            replace e2 : W1.drew.cell? ⟨b, o + k * 3 + 2, none⟩ = _ := e2
            replace g3 : W1.drew.cell? ⟨w.heap.size, 3, none⟩ = _ := q3
            clear q3
            generalize W1.drew = V at *
            refine wpAny_take (i := 0) (v := ?_) rfl (by kernel_rfl) (by kernel_rfl) (by kernel_rfl) (fun _ _ _ h => h) (Or.inl ⟨by rfl, by intro w; go_simp; first | done | with_reducible rfl⟩) ?_
            simp only [List.getElem_toArray, List.getElem_cons_succ, List.getElem_cons_zero, Act.put, List.setIfInBounds_toArray, List.set_cons_zero, List.set_cons_succ]
            refine wpAny_take (i := 1) (v := ?_) rfl (by kernel_rfl) (by kernel_rfl) (by kernel_rfl) (fun _ _ _ h => h) (Or.inl ⟨by rfl, by intro w; go_simp; first | done | with_reducible rfl⟩) ?_
            simp only [List.getElem_toArray, List.getElem_cons_succ, List.getElem_cons_zero, Act.put, List.setIfInBounds_toArray, List.set_cons_zero, List.set_cons_succ]
            refine wpAny_take (i := 2) (v := ?_) rfl (by kernel_rfl) (by kernel_rfl) (by kernel_rfl) (fun _ _ _ h => h) (Or.inl ⟨by rfl, by intro w; go_simp; first | done | with_reducible rfl⟩) ?_
            simp only [List.getElem_toArray, List.getElem_cons_succ, List.getElem_cons_zero, Act.put, List.setIfInBounds_toArray, List.set_cons_zero, List.set_cons_succ]
            refine wpAny_ready (rs := [3]) (by kernel_rfl) (by simp) ?_
            refine AllReady.cons rfl (fun K hK => ?_) ?_
            · have hK' := hK; clear hK; have hK := hK'; clear hK'
              go_simp
              refine hK _ _ ?_
              clear hK K
              refine wpAny_ready (rs := [4]) (by kernel_rfl) (by simp) ?_
              refine AllReady.cons rfl (fun K hK => ?_) ?_
              · have hK' := hK; clear hK; have hK := hK'; clear hK'
                go_simp
                go_wp2_with (go_at_call 37; refine (hc _).mono ?_; rintro e w6 ⟨rfl, b6⟩)
                have c1 := (b6.cell (p := ⟨b, o + k * 3 + 1, none⟩) hbV).trans e1
                have c3 := (b6.cell (p := ⟨w.heap.size, 3, none⟩) hgV).trans g3
                have h6 := Lib.hid (hV.out.trans (b6.mono hV.out.size))
                have hw6 := Nat.lt_of_lt_of_le hgV b6.size
                clear b6 e0 e1 e2 g3
                first | (refine hK _ _ ?_; clear hK K) | skip
                refine wpAny_take (i := 5) (v := ?_) rfl (by kernel_rfl) (by kernel_rfl) (by kernel_rfl) (fun _ _ _ h => h) (Or.inl ⟨by rfl, by intro w; go_simp; first | done | with_reducible rfl⟩) ?_
                simp only [List.getElem_toArray, List.getElem_cons_succ, List.getElem_cons_zero, Act.put, List.setIfInBounds_toArray, List.set_cons_zero, List.set_cons_succ]
                refine wpAny_take (i := 6) (v := ?_) rfl (by kernel_rfl) (by kernel_rfl) (by kernel_rfl) (fun _ _ _ h => h) (Or.inl ⟨by rfl, by intro w; go_simp; first | done | with_reducible rfl⟩) ?_
                simp only [List.getElem_toArray, List.getElem_cons_succ, List.getElem_cons_zero, Act.put, List.setIfInBounds_toArray, List.set_cons_zero, List.set_cons_succ]
                refine wpAny_take (i := 7) (v := undef) rfl (by kernel_rfl) (by kernel_rfl) (by kernel_rfl) (fun _ _ _ h => h) (Or.inr ⟨by rfl, rfl⟩) ?_
                simp only [List.getElem_toArray, List.getElem_cons_succ, List.getElem_cons_zero, Act.put, List.setIfInBounds_toArray, List.set_cons_zero, List.set_cons_succ]
                refine wpAny_take (i := 8) (v := undef) rfl (by kernel_rfl) (by kernel_rfl) (by kernel_rfl) (fun _ _ _ h => h) (Or.inr ⟨by rfl, rfl⟩) ?_
                simp only [List.getElem_toArray, List.getElem_cons_succ, List.getElem_cons_zero, Act.put, List.setIfInBounds_toArray, List.set_cons_zero, List.set_cons_succ]
                refine wpAny_take (i := 9) (v := undef) rfl (by kernel_rfl) (by kernel_rfl) (by kernel_rfl) (fun _ _ _ h => h) (Or.inr ⟨by rfl, rfl⟩) ?_
                simp only [List.getElem_toArray, List.getElem_cons_succ, List.getElem_cons_zero, Act.put, List.setIfInBounds_toArray, List.set_cons_zero, List.set_cons_succ]
                refine wpAny_take (i := 10) (v := undef) rfl (by kernel_rfl) (by kernel_rfl) (by kernel_rfl) (fun _ _ _ h => h) (Or.inr ⟨by rfl, rfl⟩) ?_
                simp only [List.getElem_toArray, List.getElem_cons_succ, List.getElem_cons_zero, Act.put, List.setIfInBounds_toArray, List.set_cons_zero, List.set_cons_succ]
                refine wpAny_take (i := 11) (v := undef) rfl (by kernel_rfl) (by kernel_rfl) (by kernel_rfl) (fun _ _ _ h => h) (Or.inr ⟨by rfl, rfl⟩) ?_
                simp only [List.getElem_toArray, List.getElem_cons_succ, List.getElem_cons_zero, Act.put, List.setIfInBounds_toArray, List.set_cons_zero, List.set_cons_succ]
                refine wpAny_take (i := 12) (v := undef) rfl (by kernel_rfl) (by kernel_rfl) (by kernel_rfl) (fun _ _ _ h => h) (Or.inr ⟨by rfl, rfl⟩) ?_
                simp only [List.getElem_toArray, List.getElem_cons_succ, List.getElem_cons_zero, Act.put, List.setIfInBounds_toArray, List.set_cons_zero, List.set_cons_succ]
                refine wpAny_take (i := 13) (v := undef) rfl (by kernel_rfl) (by kernel_rfl) (by kernel_rfl) (fun _ _ _ h => h) (Or.inr ⟨by rfl, rfl⟩) ?_
                simp only [List.getElem_toArray, List.getElem_cons_succ, List.getElem_cons_zero, Act.put, List.setIfInBounds_toArray, List.set_cons_zero, List.set_cons_succ]
                refine wpAny_take (i := 14) (v := undef) rfl (by kernel_rfl) (by kernel_rfl) (by kernel_rfl) (fun _ _ _ h => h) (Or.inr ⟨by rfl, rfl⟩) ?_
                simp only [List.getElem_toArray, List.getElem_cons_succ, List.getElem_cons_zero, Act.put, List.setIfInBounds_toArray, List.set_cons_zero, List.set_cons_succ]
                refine wpAny_take (i := 15) (v := undef) rfl (by kernel_rfl) (by kernel_rfl) (by kernel_rfl) (fun _ _ _ h => h) (Or.inr ⟨by rfl, rfl⟩) ?_
                simp only [List.getElem_toArray, List.getElem_cons_succ, List.getElem_cons_zero, Act.put, List.setIfInBounds_toArray, List.set_cons_zero, List.set_cons_succ]
                refine wpAny_take (i := 16) (v := ?_) rfl (by kernel_rfl) (by kernel_rfl) (by kernel_rfl) (fun _ _ _ h => h) (Or.inl ⟨by rfl, by intro w; go_simp; first | done | with_reducible rfl⟩) ?_
                simp only [List.getElem_toArray, List.getElem_cons_succ, List.getElem_cons_zero, Act.put, List.setIfInBounds_toArray, List.set_cons_zero, List.set_cons_succ]
                refine wpAny_done (by kernel_rfl) ?_ _
                go_wp2_with (fail)
                go_ret
                exact ⟨by rw [hf.out]; rfl, h6.out⟩
              exact AllReady.nil
            exact AllReady.nil
        · obtain rfl : k = m := by omega
          rw [List.take_of_length_le (by have := hl.out; omega)] at hgood
          have hf := Lib.hid (hfine.out hgood)
          clear hgood
          replace hb5 := Lib.hid hb5
          go_wp2_with (fail)
          go_ret
          exact ⟨by rw [hf.out]; rfl, hb5.out⟩
  · have hzb : (defC nm r dl ss != 0) = true := by simp [hz]
    have hf := Lib.hid (chkC_def (l := l) hz)
    replace hz := Lib.hid hz
    obtain hq : defC nm r dl ss = 15 := defC_ne hz.out
    rw [hq] at hD0 hzb
    have hf := Lib.hid (hf.out.trans hq)
    replace hq := Lib.hid hq
    go_enter Tryd.func21, Tryd.ntmps21
    go_wp2_with (fail)
    refine hD0.mono ?_
    rintro e w1 ⟨rfl, b1⟩
    go_wp2_with (fail)
    go_ret
    exact ⟨by rw [hf.out]; rfl, kb.out.trans (b1.mono kb.out.size)⟩
end Go.Proofs.YthmkfbabacehnaaDoor
