/- Definitions: whether one is allowed: the program's. -/
import Derived.Test.YthmkfbabacehnaaDoorDefnK
namespace Go.Proofs.YthmkfbabacehnaaDoor
open Go.RowKit Go.Shelf
set_option linter.unusedSimpArgs false
set_option linter.unusedVariables false
set_option linter.unusedSectionVars false
set_option maxRecDepth 10000
attribute [-go_sem] sliced
set_option maxHeartbeats 8000000 in
theorem defn_any (nm : ByteArray) (r dl : Int) (A : Option Addr) (n c : Nat) (l : List St) (w : World) (hnm : nm.size ≤ 140737488355328) (h : SS w A n l) (hn : n ≤ 140737488355328) (hnc : n ≤ c) (hkeys : ∀ x ∈ l, x.1.size ≤ 140737488355328) :
    Calls Tryd.prog 30 #[.agg #[.string nm, .int .i64 r, .int .i64 dl, .slice A n c]] w fun e w' => e = .returned (.int .i64 (defC nm r dl l)) ∧ Below w.heap.size w w' := by
  have hl := h.1
  have hN := fun W => name_any nm hnm W
  have hI := fun a b W => in_any a b W
  have hb0 := (Below.refl w.heap.size w).alloc (Nat.le_refl _) (.cells #[.string nm, .int .i64 r, .int .i64 dl, .slice A n c] 24)
  cases hnB : nameB nm with
  | false =>
    simp only [hnB] at hN
    have hf : defC nm r dl l = 15 := defC_bad (by simp only [defOK, hnB]; simp [hnB])
    rw [hf]
    clear hf hkeys
    replace h := Lib.hid h; replace hl := Lib.hid hl; replace hb0 := Lib.hid hb0
    go_enter Tryd.func30, Tryd.ntmps30
    go_wp2_with (fail)
    refine (hN _).mono ?_
    rintro e w1 ⟨rfl, b1⟩
    go_wp2_with (fail)
    go_ret
    exact ⟨rfl, hb0.out.trans (b1.mono hb0.out.size)⟩
  | true =>
    simp only [hnB] at hN
    have hI1 := fun W => hI r 20 W
    by_cases hr : 0 ≤ r ∧ r ≤ 20
    · rw [show (decide (0 ≤ r) && decide (r ≤ 20)) = true from by simp [hr]] at hI1
      have hI2 := fun W => hI dl 100000 W
      by_cases hd : 0 ≤ dl ∧ dl ≤ 100000
      · rw [show (decide (0 ≤ dl) && decide (dl ≤ 100000)) = true from by simp [hd]] at hI2
        have hI3 := fun W => hI ((n : Int) - 1) 7 W
        by_cases hk : 1 ≤ n ∧ n ≤ 8
        · rw [show (decide (0 ≤ (n : Int) - 1) && decide ((n : Int) - 1 ≤ 7)) = true from by simp <;> omega] at hI3
          have hdef : defOK nm r dl l = stepsOK l := by
            unfold defOK
            rw [hnB]
            simp [hr, hd, hl, hk]
          replace h := Lib.hid h; replace hl := Lib.hid hl; replace hb0 := Lib.hid hb0; replace hdef := Lib.hid hdef; replace hkeys := Lib.hid hkeys
          clear hI hnB
          go_enter Tryd.func30, Tryd.ntmps30
          go_wp2_with (fail)
          refine (hN _).mono ?_
          rintro e w1 ⟨rfl, b1⟩
          have hh1 := (b1.block w.heap.size (by simp)).trans (hpNew w _)
          have hb1 := Lib.hid (hb0.out.trans (b1.mono hb0.out.size))
          have g1 := blkC hh1 1
          have g2 := blkC hh1 2
          have g3 := blkC hh1 3
          have hw1 := blkX hh1
          simp only [List.getElem?_toArray, List.getElem?_cons_zero, List.getElem?_cons_succ] at g1 g2 g3
          replace hh1 := Lib.hid hh1
          clear hN b1
          go_wp2_with (fail)
          refine (hI1 _).mono ?_
          rintro e v1 ⟨rfl, rfl⟩
          go_wp2_with (fail)
          refine (hI2 _).mono ?_
          rintro e v2 ⟨rfl, rfl⟩
          go_wp2_with (fail)
          refine (hI3 _).mono ?_
          rintro e v3 ⟨rfl, rfl⟩
          go_wp2_with (fail)
          go_loopw [33] (fun i wr => ∃ k : Nat, k ≤ n ∧ i = .int .i64 k ∧ (List.range k).all (goodAt l) = true ∧ Below w.heap.size w wr ∧ w.heap.size < wr.heap.size ∧ wr.cell? ⟨w.heap.size, 3, none⟩ = some (.slice A n c)) (fun i _ => n - (intOf i).toNat)
          case atStart => exact ⟨0, by omega, rfl, rfl, hb1.out, hw1, g3⟩
          case round =>
            clear g1 g2 g3 hb1 hh1 hw1 hI1 hI2 hI3 hb0
            revert wr
            intro W1 hrel
            obtain ⟨k, hkn, rfl, hgood, hb5, hw5, q3⟩ := hrel
            by_cases hlt : k < n
            · have hS := SL.keep h.out hb5
              obtain ⟨b, o, ⟨key, dt⟩, rfl, hbl, hx, hc0, hc1⟩ := SS.at_ hS hlt
              simp only at hc0 hc1
              have j0 : (0 : Int) ≤ k := by omega
              have j1 : (k : Int) < n := by omega
              have j2 : (k : Int) ≤ n := by omega
              have j3 : (n : Int) ≤ c := by omega
              have j4 : (k : Int) ≤ c := by omega
              have hsl : sliced (some ⟨b, o, none⟩) 0 k c 2 = .slice (some ⟨b, o, none⟩) k c := by
                simp [sliced, Addr.add]
              have hNk := fun W => name_any key (hkeys.out _ (List.mem_of_getElem? hx)) W
              have hC := fun W => checkN_any dt W
              have hbad := fun q => goodAt_false hx q
              have hok := fun q1 q2 q3 q4 => goodAt_true hx q1 q2 q3 q4
              have kb := (Below.refl W1.heap.size W1).alloc (Nat.le_refl _) (.cells #[.string key, .int .i64 dt] 41)
              have hnew := hpNew W1 (.cells #[.string key, .int .i64 dt] 41)
              have hb6 := hb5.trans (kb.mono hb5.size)
              have hret : goodAt l k = false → defC nm r dl l = 15 := fun q => defC_bad (by rw [hdef.out]; exact good_bad (by have := hl.out; omega) q)
              have hq3 := (kb.cell (p := ⟨w.heap.size, 3, none⟩) hw5).trans q3
              have hwV := Nat.lt_of_lt_of_le hw5 kb.size
              have hSV := SL.keep hS kb
              have hbV := Nat.lt_of_lt_of_le hbl kb.size
              have hcont : ∀ V, V = W1.alloc (.cells #[.string key, .int .i64 dt] 41) → _ := fun V hV => Tryd.slices_ContainsFunc_S encSt encSt_len (fun x => decide (x.1 = key)) 50 #[.pointer (some ⟨W1.heap.size, 0, none⟩)] (enters_of Tryd.func50 (by kernel_rfl) rfl) b o k c l V (again_any W1.heap.size 0 key V (by rw [hV]; simp) (by rw [hV]; exact blkC hnew 0)) (by have := hl.out; omega) (by omega) (by rw [hV]; exact hbV) (fun j hj i v hv => by
                rw [hV]
                obtain ⟨b', o', e', _, hcc⟩ := hSV.2 (by omega)
                injection e' with e'
                injection e' with e1 e2
                subst e1 e2
                exact hcc j _ (by rw [List.getElem!_eq_getElem?_getD, List.getElem?_eq_getElem hj]; rfl) i v hv)
              have hC2 := hcont _ rfl
              clear hcont
              replace hgood := Lib.hid hgood; replace hx := Lib.hid hx; replace hret := Lib.hid hret; replace hbad := Lib.hid hbad; replace hok := Lib.hid hok; replace hb5 := Lib.hid hb5; replace hS := Lib.hid hS; replace hSV := Lib.hid hSV; replace kb := Lib.hid kb; replace hb6 := Lib.hid hb6; replace hnew := Lib.hid hnew; replace hq3 := Lib.hid hq3; replace hbV := Lib.hid hbV
              replace hC2 := Lib.hid hC2
              go_wp2_with (fail)
              refine hC2.out.mono ?_
              clear hC2
              rintro e w2 ⟨rfl, b2⟩
              have s0 := blkC ((b2.block _ (by simp)).trans hnew.out) 0
              have s1 := blkC ((b2.block _ (by simp)).trans hnew.out) 1
              simp only [List.getElem?_toArray, List.getElem?_cons_zero, List.getElem?_cons_succ] at s0 s1
              have hn2 := (b2.block _ (by simp)).trans hnew.out
              have p3 := (b2.cell (p := ⟨w.heap.size, 3, none⟩) hwV).trans hq3.out
              have hw2 := Nat.lt_of_lt_of_le hwV b2.size
              have hb7 := hb6.out.trans (b2.mono hb6.out.size)
              replace hn2 := Lib.hid hn2; replace hb7 := Lib.hid hb7; replace p3 := Lib.hid p3
              clear b2 hc0 hc1 q3 hsl
              cases hA : (l.take k).any (fun x => decide (x.1 = key)) with
              | true =>
                have hf := Lib.hid (hret.out (hbad.out (.inl hA)))
                replace hA := Lib.hid hA
                go_wp2_with (fail)
                go_ret
                exact ⟨by rw [hf.out]; rfl, hb7.out⟩
              | false =>
                cases hnk : nameB key with
                | false =>
                  have hf := Lib.hid (hret.out (hbad.out (.inr (.inl hnk))))
                  simp only [hnk] at hNk
                  replace hA := Lib.hid hA
                  go_wp2_with (fail)
                  refine (hNk _).mono ?_
                  rintro e w3 ⟨rfl, b3⟩
                  go_wp2_with (fail)
                  go_ret
                  exact ⟨by rw [hf.out]; rfl, hb7.out.trans (b3.mono hb7.out.size)⟩
                | true =>
                  simp only [hnk] at hNk
                  have t1 := fun (W : World) (b3 : Below w2.heap.size w2 W) => (b3.cell (p := ⟨W1.heap.size, 1, none⟩) (blkX hn2.out)).trans s1
                  have t3 := fun (W : World) (b3 : Below w2.heap.size w2 W) => (b3.cell (p := ⟨w.heap.size, 3, none⟩) hw2).trans p3.out
                  have tb := fun (W : World) (b3 : Below w2.heap.size w2 W) => hb7.out.trans (b3.mono hb7.out.size)
                  have tw := fun (W : World) (b3 : Below w2.heap.size w2 W) => Nat.lt_of_lt_of_le hw2 b3.size
                  replace t1 := Lib.hid t1; replace t3 := Lib.hid t3; replace tb := Lib.hid tb; replace tw := Lib.hid tw
                  have hA' := hA
                  replace hA := Lib.hid hA
                  by_cases z0 : dt = 0
                  · have hf := Lib.hid (hret.out (hbad.out (.inr (.inr (.inl z0)))))
                    have z0b : (dt == 0) = true := by simp [z0]
                    replace z0 := Lib.hid z0; replace hA' := Lib.hid hA'
                    go_wp2_with (fail)
                    refine (hNk _).mono ?_
                    rintro e w3 ⟨rfl, b3⟩
                    have q1 := t1.out _ b3
                    have hbb := Lib.hid (tb.out _ b3)
                    clear b3 s0 s1
                    go_wp2_with (fail)
                    go_ret
                    exact ⟨by rw [hf.out]; rfl, hbb.out⟩
                  · have z0b : (dt == 0) = false := beq_false_of_ne z0
                    by_cases hv : okV dt = true
                    · have hg2 := hok.out hA' hnk z0 hv
                      have hgk : (List.range (k + 1)).all (goodAt l) = true := by rw [good_take, hgood.out, hg2]; rfl
                      rw [okVC_ok hv] at hC
                      replace hgk := Lib.hid hgk; replace hg2 := Lib.hid hg2; replace hv := Lib.hid hv; replace z0 := Lib.hid z0; replace hA' := Lib.hid hA'
                      go_wp2_with (fail)
                      refine (hNk _).mono ?_
                      rintro e w3 ⟨rfl, b3⟩
                      have q1 := t1.out _ b3
                      have q2 := t3.out _ b3
                      have q4 := tw.out _ b3
                      have hbb := Lib.hid (tb.out _ b3)
                      replace q2 := Lib.hid q2
                      clear b3 s0 s1
                      go_wp2_with (fail)
                      refine (hC _).mono ?_
                      rintro e w4 ⟨rfl, rfl⟩
                      go_wp2_with (fail)
                      exact ⟨⟨k + 1, by omega, by go_num, hgk.out, hbb.out, q4, q2.out⟩, by simp [intOf]; omega⟩
                    · have hf := Lib.hid (hret.out (hbad.out (.inr (.inr (.inr hv)))))
                      rw [okVC_bad hv] at hC
                      replace hv := Lib.hid hv; replace z0 := Lib.hid z0; replace hA' := Lib.hid hA'
                      go_wp2_with (fail)
                      refine (hNk _).mono ?_
                      rintro e w3 ⟨rfl, b3⟩
                      have q1 := t1.out _ b3
                      have hbb := Lib.hid (tb.out _ b3)
                      clear b3 s0 s1
                      go_wp2_with (fail)
                      refine (hC _).mono ?_
                      rintro e w4 ⟨rfl, rfl⟩
                      go_wp2_with (fail)
                      go_ret
                      exact ⟨by rw [hf.out]; rfl, hbb.out⟩
            · obtain rfl : k = n := by omega
              have hf : defC nm r dl l = 0 := defC_ok (by rw [hdef.out]; unfold stepsOK; rw [hl.out]; exact hgood)
              replace hf := Lib.hid hf
              clear hgood
              go_wp2_with (fail)
              go_ret
              exact ⟨by rw [hf.out]; rfl, hb5⟩
        · rw [show (decide (0 ≤ (n : Int) - 1) && decide ((n : Int) - 1 ≤ 7)) = false from by rw [Bool.eq_false_iff]; simp <;> omega] at hI3
          have hk' : ¬ (1 ≤ l.length ∧ l.length ≤ 8) := by omega
          have hk'' : (decide (1 ≤ l.length) && decide (l.length ≤ 8)) = false := by rw [Bool.eq_false_iff]; simp; omega
          have hf : defC nm r dl l = 15 := defC_bad (by unfold defOK; simp only [hnB, Bool.true_and]; rw [Bool.eq_false_iff]; simp; omega 
          )
          rw [hf]
          clear hf hkeys
          replace h := Lib.hid h; replace hl := Lib.hid hl; replace hb0 := Lib.hid hb0
          go_enter Tryd.func30, Tryd.ntmps30
          go_wp2_with (fail)
          refine (hN _).mono ?_
          rintro e w1 ⟨rfl, b1⟩
          have hh1 := (b1.block w.heap.size (by simp)).trans (hpNew w _)
          have hb1 := Lib.hid (hb0.out.trans (b1.mono hb0.out.size))
          have g1 := blkC hh1 1
          have g2 := blkC hh1 2
          have g3 := blkC hh1 3
          have hw1 := blkX hh1
          simp only [List.getElem?_toArray, List.getElem?_cons_zero, List.getElem?_cons_succ] at g1 g2 g3
          replace hh1 := Lib.hid hh1
          clear hN b1
          go_wp2_with (fail)
          refine (hI1 _).mono ?_
          rintro e v1 ⟨rfl, rfl⟩
          go_wp2_with (fail)
          refine (hI2 _).mono ?_
          rintro e v2 ⟨rfl, rfl⟩
          go_wp2_with (fail)
          refine (hI3 _).mono ?_
          rintro e v3 ⟨rfl, rfl⟩
          go_wp2_with (fail)
          go_ret
          exact ⟨rfl, hb1.out⟩
      · rw [show (decide (0 ≤ dl) && decide (dl ≤ 100000)) = false from by rw [Bool.eq_false_iff]; simp; omega] at hI2
        have hd' : (decide (0 ≤ dl) && decide (dl ≤ 100000)) = false := by rw [Bool.eq_false_iff]; simp; omega
        have hf : defC nm r dl l = 15 := defC_bad (by unfold defOK; simp only [hnB, Bool.true_and]; rw [Bool.eq_false_iff]; simp; omega 
        )
        rw [hf]
        clear hf hkeys
        replace h := Lib.hid h; replace hl := Lib.hid hl; replace hb0 := Lib.hid hb0
        go_enter Tryd.func30, Tryd.ntmps30
        go_wp2_with (fail)
        refine (hN _).mono ?_
        rintro e w1 ⟨rfl, b1⟩
        have hh1 := (b1.block w.heap.size (by simp)).trans (hpNew w _)
        have hb1 := Lib.hid (hb0.out.trans (b1.mono hb0.out.size))
        have g1 := blkC hh1 1
        have g2 := blkC hh1 2
        have g3 := blkC hh1 3
        have hw1 := blkX hh1
        simp only [List.getElem?_toArray, List.getElem?_cons_zero, List.getElem?_cons_succ] at g1 g2 g3
        replace hh1 := Lib.hid hh1
        clear hN b1
        go_wp2_with (fail)
        refine (hI1 _).mono ?_
        rintro e v1 ⟨rfl, rfl⟩
        go_wp2_with (fail)
        refine (hI2 _).mono ?_
        rintro e v2 ⟨rfl, rfl⟩
        go_wp2_with (fail)
        go_ret
        exact ⟨rfl, hb1.out⟩
    · rw [show (decide (0 ≤ r) && decide (r ≤ 20)) = false from by rw [Bool.eq_false_iff]; simp; omega] at hI1
      have hr' : (decide (0 ≤ r) && decide (r ≤ 20)) = false := by rw [Bool.eq_false_iff]; simp; omega
      have hf : defC nm r dl l = 15 := defC_bad (by unfold defOK; simp only [hnB, Bool.true_and]; rw [Bool.eq_false_iff]; simp; omega 
      )
      rw [hf]
      clear hf hkeys
      replace h := Lib.hid h; replace hl := Lib.hid hl; replace hb0 := Lib.hid hb0
      go_enter Tryd.func30, Tryd.ntmps30
      go_wp2_with (fail)
      refine (hN _).mono ?_
      rintro e w1 ⟨rfl, b1⟩
      have hh1 := (b1.block w.heap.size (by simp)).trans (hpNew w _)
      have hb1 := Lib.hid (hb0.out.trans (b1.mono hb0.out.size))
      have g1 := blkC hh1 1
      have g2 := blkC hh1 2
      have g3 := blkC hh1 3
      have hw1 := blkX hh1
      simp only [List.getElem?_toArray, List.getElem?_cons_zero, List.getElem?_cons_succ] at g1 g2 g3
      replace hh1 := Lib.hid hh1
      clear hN b1
      go_wp2_with (fail)
      refine (hI1 _).mono ?_
      rintro e v1 ⟨rfl, rfl⟩
      go_wp2_with (fail)
      go_ret
      exact ⟨rfl, hb1.out⟩
end Go.Proofs.YthmkfbabacehnaaDoor
