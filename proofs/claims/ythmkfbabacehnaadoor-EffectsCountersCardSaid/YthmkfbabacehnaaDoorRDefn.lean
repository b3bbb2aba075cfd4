/- Definitions: whether one is allowed: the document's. -/
import Derived.Test.YthmkfbabacehnaaDoorDefnK
import Derived.Deep.QuietTactic
import Derived.BigQuiet
namespace Go.Proofs.YthmkfbabacehnaaDoor
open Go.RowKit Go.Shelf
set_option linter.unusedSimpArgs false
set_option linter.unusedVariables false
set_option linter.unusedSectionVars false
set_option maxRecDepth 10000
theorem ret15_of {nm : ByteArray} {r dl : Int} {l : List St} {k : Nat} (hk : k < l.length) (hd : defOK nm r dl l = stepsOK l) (h : goodAt l k = false) : defC nm r dl l = 15 := defC_bad (by rw [hd]; exact good_bad hk h)
set_option maxHeartbeats 8000000 in
theorem rdefn_any (nm : ByteArray) (r dl : Int) (A : Option Addr) (n c : Nat) (l : List St) (w : World) (hnm : nm.size ≤ 140737488355328) (h : SS w A n l) (hn : n ≤ 140737488355328) (hkeys : ∀ x ∈ l, x.1.size ≤ 140737488355328) :
    Calls Tryd.prog 36 #[.agg #[.string nm, .int .i64 r, .int .i64 dl, .slice A n c]] w fun e w' => e = .returned (.int .i64 (defC nm r dl l)) ∧ Below w.heap.size w w' := by
  have hl := h.1
  have hN := fun W => rname_any nm hnm W
  have hb0 := (Below.refl w.heap.size w).alloc (Nat.le_refl _) (.cells #[.string nm, .int .i64 r, .int .i64 dl, .slice A n c] 24)
  cases hnB : nameB nm with
  | false =>
    simp only [hnB] at hN
    have hf : defC nm r dl l = 15 := defC_bad (by simp [defOK, hnB])
    rw [hf]
    clear hf
    replace h := Lib.hid h; replace hl := Lib.hid hl; replace hb0 := Lib.hid hb0
    clear hkeys
    go_enter Tryd.func36, Tryd.ntmps36
    go_wp2_with (fail)
    refine (hN _).mono ?_
    rintro e w1 ⟨rfl, rfl⟩
    go_wp2_with (fail)
    go_ret
    exact ⟨rfl, hb0.out⟩
  | true =>
    simp only [hnB] at hN
    by_cases r0 : 0 ≤ r
    · skip
      by_cases r1 : r ≤ 20
      · skip
        by_cases d0 : 0 ≤ dl
        · skip
          by_cases d1 : dl ≤ 100000
          · skip
            by_cases n0 : 1 ≤ n
            · skip
              have n0i : (1 : Int) ≤ n := by omega
              by_cases n1 : n ≤ 8
              · skip
                have n1i : (n : Int) ≤ 8 := by omega
                have hdef : defOK nm r dl l = stepsOK l := by
                  unfold defOK
                  rw [hnB]
                  simp [r0, r1, d0, d1, n0, n1, hl]
                replace h := Lib.hid h; replace hl := Lib.hid hl; replace hb0 := Lib.hid hb0; replace hdef := Lib.hid hdef; replace hkeys := Lib.hid hkeys
                go_enter Tryd.func36, Tryd.ntmps36
                have g3 := blkC (hpNew w (.cells #[.string nm, .int .i64 r, .int .i64 dl, .slice A n c] 24)) 3
                have hw1 : w.heap.size < (w.alloc (.cells #[.string nm, .int .i64 r, .int .i64 dl, .slice A n c] 24)).heap.size := by simp
                simp only [List.getElem?_toArray, List.getElem?_cons_zero, List.getElem?_cons_succ] at g3
                go_wp2_with (fail)
                refine (hN _).mono ?_
                rintro e w1 ⟨rfl, rfl⟩
                go_wp2_with (fail)
                go_loopw [3] (fun i wr => ∃ k : Nat, k ≤ n ∧ i = .int .i64 k ∧ (List.range k).all (goodAt l) = true ∧ Below w.heap.size w wr ∧ w.heap.size < wr.heap.size ∧ wr.cell? ⟨w.heap.size, 3, none⟩ = some (.slice A n c)) (fun i _ => n - (intOf i).toNat)
                case atStart => exact ⟨0, by omega, rfl, rfl, hb0.out, hw1, g3⟩
                case round =>
                  clear g3 hw1 hb0
                  revert wr
                  intro W1 hrel
                  obtain ⟨k, hkn, rfl, hgood, hb5, hw5, q3⟩ := hrel
                  by_cases hlt : k < n
                  · have hS := SL.keep h.out hb5
                    obtain ⟨b, o, ⟨key, dt⟩, rfl, hbl, hx, hc0, hc1⟩ := SS.at_ hS hlt
                    simp only at hc0 hc1
                    have j0 : (0 : Int) ≤ k := by omega
                    have j1 : (k : Int) < n := by omega
                    have hNk := fun W => rname_any key (hkeys.out _ (List.mem_of_getElem? hx)) W
                    have hbad := fun q => goodAt_false hx q
                    have hok := fun q1 q2 q3 q4 => goodAt_true hx q1 q2 q3 q4
                    have kb := (Below.refl W1.heap.size W1).alloc (Nat.le_refl _) (.cells #[.string key, .int .i64 dt] 41)
                    have s0 := blkC (hpNew W1 (.cells #[.string key, .int .i64 dt] 41)) 0
                    have s1 := blkC (hpNew W1 (.cells #[.string key, .int .i64 dt] 41)) 1
                    simp only [List.getElem?_toArray, List.getElem?_cons_zero, List.getElem?_cons_succ] at s0 s1
                    have hb6 := Lib.hid (hb5.trans (kb.mono hb5.size))
                    have hsz : (W1.alloc (.cells #[.string key, .int .i64 dt] 41)).heap.size = W1.heap.size + 1 := by simp
                    have hret : goodAt l k = false → defC nm r dl l = 15 := fun q => ret15_of (by have := hl.out; omega) (hdef.out) q
                    replace hb5 := Lib.hid hb5; replace hgood := Lib.hid hgood; replace hS := Lib.hid hS; replace hx := Lib.hid hx; replace kb := Lib.hid kb; replace hsz := Lib.hid hsz; replace hbad := Lib.hid hbad; replace hok := Lib.hid hok; replace hret := Lib.hid hret
                    cases hnk : nameB key with
                    | false =>
                      have hf := hret.out (hbad.out (.inr (.inl hnk)))
                      simp only [hnk] at hNk
                      replace hf := Lib.hid hf
                      clear s0 s1
                      go_wp2_with (fail)
                      refine (hNk _).mono ?_
                      rintro e w2 ⟨rfl, rfl⟩
                      go_wp2_with (fail)
                      go_ret
                      exact ⟨by rw [hf.out]; rfl, hb6.out⟩
                    | true =>
                      simp only [hnk] at hNk
                      by_cases z0 : dt = 0
                      · have hf := Lib.hid (hret.out (hbad.out (.inr (.inr (.inl z0)))))
                        have z0b : (dt == 0) = true := by simp [z0]
                        replace z0 := Lib.hid z0
                        clear s0 s1
                        go_wp2_with (fail)
                        refine (hNk _).mono ?_
                        rintro e w2 ⟨rfl, rfl⟩
                        go_wp2_with (fail)
                        go_ret
                        exact ⟨by rw [hf.out]; rfl, hb6.out⟩
                      · have z0b : (dt == 0) = false := beq_false_of_ne z0
                        by_cases z1 : dt < -1152921504606846976
                        · have hf := Lib.hid (hret.out (hbad.out (.inr (.inr (.inr (fun q => by rw [okV_iff] at q; simp only at q; omega))))))
                          clear s0 s1
                          go_wp2_with (fail)
                          refine (hNk _).mono ?_
                          rintro e w2 ⟨rfl, rfl⟩
                          go_wp2_with (fail)
                          go_ret
                          exact ⟨by rw [hf.out]; rfl, hb6.out⟩
                        · by_cases z2 : 1152921504606846976 < dt
                          · have hf := Lib.hid (hret.out (hbad.out (.inr (.inr (.inr (fun q => by rw [okV_iff] at q; simp only at q; omega))))))
                            clear s0 s1
                            go_wp2_with (fail)
                            refine (hNk _).mono ?_
                            rintro e w2 ⟨rfl, rfl⟩
                            go_wp2_with (fail)
                            go_ret
                            exact ⟨by rw [hf.out]; rfl, hb6.out⟩
                          · have hv : okV dt = true := (okV_iff dt).2 (by omega)
                            have hbad2 := Lib.hid (fun q => hret.out (hbad.out (.inl q)))
                            have hok2 := Lib.hid (fun q => hok.out q hnk z0 hv)
                            replace hv := Lib.hid hv
                            go_wp2_with (fail)
                            refine (hNk _).mono ?_
                            rintro e w2 ⟨rfl, rfl⟩
                            go_wp2_with (fail)
                            generalize hV : W1.alloc (.cells #[.string key, .int .i64 dt] 41) = V at *
                            replace hV := Lib.hid hV
                            have q3V := (kb.out.cell (p := ⟨w.heap.size, 3, none⟩) hw5).trans q3
                            have hwV : w.heap.size < V.heap.size := by have := hsz.out; omega
                            have hxV : W1.heap.size < V.heap.size := by have := hsz.out; omega
                            have hSV := Lib.hid (SL.keep hS.out kb.out)
                            go_loopw [5] (fun i wr => ∃ j : Nat, j ≤ k ∧ i = .int .i64 j ∧ (l.take j).any (fun x => decide (x.1 = key)) = false ∧ Below V.heap.size V wr) (fun i _ => k - (intOf i).toNat)
                            case atStart => exact ⟨0, by omega, rfl, rfl, Below.refl _ _⟩
                            case round =>
                              revert wr
                              intro W2 hrel
                              obtain ⟨j, hj, rfl, hany, hb7⟩ := hrel
                              have hbW := hb6.out.trans (hb7.mono hb6.out.size)
                              have c3 := (hb7.cell (p := ⟨w.heap.size, 3, none⟩) hwV).trans q3V
                              have c0 := (hb7.cell (p := ⟨W1.heap.size, 0, none⟩) hxV).trans s0
                              by_cases hjk : j < k
                              · obtain ⟨b', o', ⟨key', dt'⟩, hbo, hbl', hx', hc0', hc1'⟩ := SS.at_ (SL.keep hSV.out hb7) (i := j) (by omega)
                                injection hbo with hbo
                                injection hbo with hb1 hb2
                                subst hb1 hb2
                                simp only at hc0' hc1'
                                have i0 : (0 : Int) ≤ j := by omega
                                have i1 : (j : Int) < n := by omega
                                have hst : (l.take (j + 1)).any (fun x => decide (x.1 = key)) = decide (key' = key) := by
                                  rw [List.take_add_one, hx', List.any_append, hany]; simp
                                have hmore : (l.take (j + 1)).any (fun x => decide (x.1 = key)) = true → (l.take k).any (fun x => decide (x.1 = key)) = true := fun q => by
                                  rw [List.any_eq_true] at q ⊢
                                  obtain ⟨x, hx1, hx2⟩ := q
                                  exact ⟨x, (List.take_sublist_take_left (by omega : j + 1 ≤ k)).subset hx1, hx2⟩
                                replace hx' := Lib.hid hx'; replace hany := Lib.hid hany; replace hb7 := Lib.hid hb7; replace hmore := Lib.hid hmore; replace hbW := Lib.hid hbW
                                clear s0 s1 q3 q3V hc0 hc1 hc1'
                                by_cases hkk : key' = key
                                · have e1 : (key'.toList == key.toList) = true := by rw [str_eq]; exact decide_eq_true hkk
                                  rw [decide_eq_true hkk] at hst
                                  have hf := Lib.hid (hbad2.out (hmore.out hst))
                                  replace hst := Lib.hid hst; replace hkk := Lib.hid hkk
                                  go_wp2_with (fail)
                                  go_quiet (fail)
                                  go_wp2_with (fail)
                                  go_ret
                                  exact ⟨by rw [hf.out]; rfl, below_drewN hbW.out _⟩
                                · have e1 : (key'.toList == key.toList) = false := by rw [str_eq]; exact decide_eq_false hkk
                                  rw [decide_eq_false hkk] at hst
                                  replace hst := Lib.hid hst
                                  go_wp2_with (fail)
                                  go_quiet (fail)
                                  go_wp2_with (fail)
                                  exact ⟨⟨j + 1, by omega, by go_num, hst.out, below_drewN hb7.out _⟩, by simp [intOf]; omega⟩
                              · obtain rfl : j = k := by omega
                                have hg2 := hok2.out hany
                                have hgk : (List.range (j + 1)).all (goodAt l) = true := by rw [good_take, hgood.out, hg2]; rfl
                                have hw8 := Nat.lt_of_lt_of_le hwV hb7.size
                                replace hgk := Lib.hid hgk; replace hany := Lib.hid hany; replace hg2 := Lib.hid hg2; replace hbW := Lib.hid hbW
                                clear s0 s1 q3 q3V hc0 hc1 c0
                                go_wp2_with (fail)
                                exact ⟨⟨j + 1, by omega, by go_num, hgk.out, hbW.out, hw8, c3⟩, by simp [intOf]; omega⟩
                  · obtain rfl : k = n := by omega
                    have hf : defC nm r dl l = 0 := defC_ok (by rw [hdef.out]; unfold stepsOK; rw [hl.out]; exact hgood)
                    replace hf := Lib.hid hf
                    clear hgood
                    go_wp2_with (fail)
                    go_ret
                    exact ⟨by rw [hf.out]; rfl, hb5⟩
              · skip
                have n1i : ¬ (n : Int) ≤ 8 := by omega
                have hf : defC nm r dl l = 15 := defC_bad (by simp [defOK, n1, hl])
                rw [hf]
                clear hf
                replace h := Lib.hid h; replace hl := Lib.hid hl; replace hb0 := Lib.hid hb0
                clear hkeys
                go_enter Tryd.func36, Tryd.ntmps36
                go_wp2_with (fail)
                refine (hN _).mono ?_
                rintro e w1 ⟨rfl, rfl⟩
                go_wp2_with (fail)
                go_ret
                exact ⟨rfl, hb0.out⟩
            · skip
              have n0i : ¬ (1 : Int) ≤ n := by omega
              have hf : defC nm r dl l = 15 := defC_bad (by simp [defOK, n0, hl])
              rw [hf]
              clear hf
              replace h := Lib.hid h; replace hl := Lib.hid hl; replace hb0 := Lib.hid hb0
              clear hkeys
              go_enter Tryd.func36, Tryd.ntmps36
              go_wp2_with (fail)
              refine (hN _).mono ?_
              rintro e w1 ⟨rfl, rfl⟩
              go_wp2_with (fail)
              go_ret
              exact ⟨rfl, hb0.out⟩
          · skip
            have hf : defC nm r dl l = 15 := defC_bad (by simp [defOK, d1, hl])
            rw [hf]
            clear hf
            replace h := Lib.hid h; replace hl := Lib.hid hl; replace hb0 := Lib.hid hb0
            clear hkeys
            go_enter Tryd.func36, Tryd.ntmps36
            go_wp2_with (fail)
            refine (hN _).mono ?_
            rintro e w1 ⟨rfl, rfl⟩
            go_wp2_with (fail)
            go_ret
            exact ⟨rfl, hb0.out⟩
        · skip
          have hf : defC nm r dl l = 15 := defC_bad (by simp [defOK, d0, hl])
          rw [hf]
          clear hf
          replace h := Lib.hid h; replace hl := Lib.hid hl; replace hb0 := Lib.hid hb0
          clear hkeys
          go_enter Tryd.func36, Tryd.ntmps36
          go_wp2_with (fail)
          refine (hN _).mono ?_
          rintro e w1 ⟨rfl, rfl⟩
          go_wp2_with (fail)
          go_ret
          exact ⟨rfl, hb0.out⟩
      · skip
        have hf : defC nm r dl l = 15 := defC_bad (by simp [defOK, r1, hl])
        rw [hf]
        clear hf
        replace h := Lib.hid h; replace hl := Lib.hid hl; replace hb0 := Lib.hid hb0
        clear hkeys
        go_enter Tryd.func36, Tryd.ntmps36
        go_wp2_with (fail)
        refine (hN _).mono ?_
        rintro e w1 ⟨rfl, rfl⟩
        go_wp2_with (fail)
        go_ret
        exact ⟨rfl, hb0.out⟩
    · skip
      have hf : defC nm r dl l = 15 := defC_bad (by simp [defOK, r0, hl])
      rw [hf]
      clear hf
      replace h := Lib.hid h; replace hl := Lib.hid hl; replace hb0 := Lib.hid hb0
      clear hkeys
      go_enter Tryd.func36, Tryd.ntmps36
      go_wp2_with (fail)
      refine (hN _).mono ?_
      rintro e w1 ⟨rfl, rfl⟩
      go_wp2_with (fail)
      go_ret
      exact ⟨rfl, hb0.out⟩
end Go.Proofs.YthmkfbabacehnaaDoor
