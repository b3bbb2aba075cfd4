/- Sum: the document's. -/
import Derived.Test.YthmkfbabacehnaaDoorSumD
import Derived.Deep.CutBlock
import Derived.Deep.DeepCutAuto
namespace Go.Proofs.YthmkfbabacehnaaDoor
open Go.RowKit Go.Shelf
set_option linter.unusedSimpArgs false
set_option linter.unusedVariables false
set_option linter.unusedSectionVars false
set_option maxRecDepth 10000
attribute [local go_sem ↓] hideAppend
theorem hpNewD (W : World) (o : Obj) : (W.drew.alloc o).heap[W.heap.size]? = some o := hpNew W.drew o
theorem rpart1_at {ss : List St} {key : ByteArray} {a : Int} {q p : Nat} {s : St} (h : ss[q]? = some s) :
    rpart1 ss key (a, (q : Int), (p : Int)) = (if decide (s.1 = key) && decide (p = 1) then [s.2] else []) ++ (if decide (s.1 = key) && decide (p = 2) then [-s.2] else []) := by
  unfold rpart1
  have e1 : decide ((p : Int) = 1) = decide (p = 1) := by congr 1; exact propext (by omega)
  have e2 : decide ((p : Int) = 2) = decide (p = 2) := by congr 1; exact propext (by omega)
  simp only [Int.toNat_natCast, h, e1, e2]
theorem sumR_zero {nm : ByteArray} {r dl : Int} {ss : List St} {l : List Ef} {key : ByteArray} (h : chkC nm r dl ss l = 0) : sumR nm r dl ss l key = sumC (rpartsL ss key l) := by unfold sumR; rw [if_pos h]
theorem sumR_bad {nm : ByteArray} {r dl : Int} {ss : List St} {l : List Ef} {key : ByteArray} (h : ¬ chkC nm r dl ss l = 0) : sumR nm r dl ss l key = (0, chkC nm r dl ss l) := by unfold sumR; rw [if_neg h]
theorem rparts_le (ss : List St) (key : ByteArray) (l : List Ef) : (rpartsL ss key l).length ≤ l.length := by
  refine flat_len (fun x => ?_) l
  unfold rpart1
  split
  · split <;> split <;> simp_all
  · simp
set_option maxHeartbeats 8000000 in
theorem rsum_any (nm : ByteArray) (r dl : Int) (A : Option Addr) (n c : Nat) (ss : List St) (B : Option Addr) (m d : Nat) (l : List Ef) (key : ByteArray) (w : World) (hnm : nm.size ≤ 140737488355328) (h : SS w A n ss) (hn : n ≤ 140737488355328) (hnc : n ≤ c) (hkeys : ∀ x ∈ ss, x.1.size ≤ 140737488355328) (hE : ES w B m l) (hm : m ≤ 100000) :
    Calls Tryd.prog 9 #[.agg #[.string nm, .int .i64 r, .int .i64 dl, .slice A n c], .slice B m d, .string key] w fun e w' => e = .returned (.tuple #[.int .i64 (sumR nm r dl ss l key).1, .int .i64 (sumR nm r dl ss l key).2]) ∧ Below w.heap.size w w' := by
  have hl := hE.1
  have hsl := h.1
  have kb := (Below.refl w.heap.size w).alloc (Nat.le_refl _) (.cells #[.string nm, .int .i64 r, .int .i64 dl, .slice A n c] 24)
  have hnew := hpNew w (.cells #[.string nm, .int .i64 r, .int .i64 dl, .slice A n c] 24)
  have hC := rchk_any nm r dl A n c ss B m d l (w.alloc (.cells #[.string nm, .int .i64 r, .int .i64 dl, .slice A n c] 24)) hnm (SL.keep h kb) hn hnc hkeys (SL.keep hE kb) (by omega)
  by_cases hz : chkC nm r dl ss l = 0
  · obtain ⟨z1, z2, z3⟩ := chk_zero hz
    rw [sumR_zero hz]
    rw [hz] at hC
    rw [hsl] at z3
    replace h := Lib.hid h; replace hE := Lib.hid hE; replace hl := Lib.hid hl; replace hsl := Lib.hid hsl; replace hkeys := Lib.hid hkeys; replace kb := Lib.hid kb; replace hnew := Lib.hid hnew; replace hz := Lib.hid hz; replace z1 := Lib.hid z1; replace z3 := Lib.hid z3
    go_enter Tryd.func9, Tryd.ntmps9
    go_wp2_with (fail)
    refine hC.mono ?_
    rintro e w1 ⟨rfl, b1⟩
    have hh1 := (b1.block _ (by simp)).trans hnew.out
    have d3 := blkC hh1 3
    have lt0 := blkX hh1
    simp only [List.getElem?_toArray, List.getElem?_cons_zero, List.getElem?_cons_succ] at d3
    have hb0 := kb.out.trans (b1.mono kb.out.size)
    replace hh1 := Lib.hid hh1; replace hb0 := Lib.hid hb0; replace d3 := Lib.hid d3
    clear b1 hC
    go_wp2_with (fail)
    go_loopw [9, 10] (fun v i wr => ∃ (k n' : Nat) (A' : Option Addr) (c' : Nat), k ≤ m ∧ i = .int .i64 k ∧ v = .slice A' n' c' ∧ OwnN w1 A' n' c' (rpartsL ss key (l.take k)) wr) (fun _ i _ => m - (intOf i).toNat)
    case atStart => exact ⟨0, 0, none, 0, by omega, rfl, rfl, OwnN.nil _⟩
    case round =>
      revert wr
      intro W1 hrel
      obtain ⟨k, n', A', c', hk, rfl, rfl, hO⟩ := hrel
      have hpl := rparts_le ss key (l.take k)
      have hn' : n' ≤ 1000000 := by rw [hO.len, List.length_take] at hpl; omega
      have hbW := hO.bel
      have hb1 := hb0.out.trans (hO.bel.mono hb0.out.size)
      have lt1 := Nat.lt_of_lt_of_le lt0 hO.bel.size
      by_cases hlt : k < m
      · skip
        obtain ⟨b, o, ⟨x0, x1, x2'⟩, rfl, hbl, hx, e0, e1, e2⟩ := ES.at_ (SL.keep hE.out hb0.out) hlt
        obtain ⟨q, p, hq1, hq, hp1, hp, hp3⟩ := okA_nat (z3.out _ (List.mem_of_getElem? hx))
        simp only at hq1 hp1 e0 e1 e2
        subst hq1 hp1
        have f2 := Lib.hid (fun V (q : Below w1.heap.size w1 V) => (q.cell (p := ⟨b, o + k * 3 + 2, none⟩) hbl).trans e2)
        replace e0 := (hbW.cell (p := ⟨b, o + k * 3, none⟩) hbl).trans e0
        replace e1 := (hbW.cell (p := ⟨b, o + k * 3 + 1, none⟩) hbl).trans e1
        replace e2 := (hbW.cell (p := ⟨b, o + k * 3 + 2, none⟩) hbl).trans e2
        replace hbl := Nat.lt_of_lt_of_le hbl hbW.size
        obtain ⟨sb, so, ⟨sk, sd⟩, hA, hsb, hs, sc0, sc1⟩ := SS.at_ (SL.keep h.out hb1) hq
        subst hA
        simp only at sc0 sc1
        have hsd := (okV_iff _).1 (stepsOK_at z1.out hs).2.1
        simp only at hsd
        have j0 : (0 : Int) ≤ k := by omega
        have j1 : (k : Int) < m := by omega
        have q0 : (0 : Int) ≤ q := by omega
        have q1 : (q : Int) < n := by omega
        have hpt : rpartsL ss key (l.take (k + 1)) = rpartsL ss key (l.take k) ++ rpart1 ss key (x0, (q : Int), (p : Int)) := flat_take hx
        rw [rpart1_at hs] at hpt
        simp only at hpt
        have gd := (hO.bel.cell (p := ⟨w.heap.size, 3, none⟩) lt0).trans d3.out
        replace hO := Lib.hid hO; replace hx := Lib.hid hx; replace hs := Lib.hid hs; replace hpl := Lib.hid hpl; replace hpt := Lib.hid hpt; replace hb1 := Lib.hid hb1
        go_wp2_with (fail)
        go_upto_region 8 with (fail)
        go_cut [11] from 33 to 67 (fun v wx => ∃ g, v = .pointer (some ⟨g, 0, none⟩) ∧ wx.heap[g]? = some (.cells #[.string sk, .int .i64 sd] 41 (0, 0)) ∧ Below W1.heap.size W1 wx)
        case first =>
          as_aux_lemma =>
            refine wp_region_any (by kernel_rfl) ?_
            try (change wpAny _ _ _ _ _ _ _ (World.drew _))
            refine wpAny_take (i := 0) (v := ?_) rfl (by kernel_rfl) (by kernel_rfl) (by kernel_rfl) (fun _ _ _ h => h) (Or.inl ⟨by rfl, by intro w; go_simp; first | done | with_reducible rfl⟩) ?_
            simp only [List.getElem_toArray, List.getElem_cons_succ, List.getElem_cons_zero, Act.put, List.setIfInBounds_toArray, List.set_cons_zero, List.set_cons_succ]
            refine wpAny_take (i := 2) (v := ?_) rfl (by kernel_rfl) (by kernel_rfl) (by kernel_rfl) (fun _ _ _ h => h) (Or.inl ⟨by rfl, by intro w; go_simp; first | done | with_reducible rfl⟩) ?_
            simp only [List.getElem_toArray, List.getElem_cons_succ, List.getElem_cons_zero, Act.put, List.setIfInBounds_toArray, List.set_cons_zero, List.set_cons_succ]
            refine wpAny_take (i := 3) (v := ?_) rfl (by kernel_rfl) (by kernel_rfl) (by kernel_rfl) (fun _ _ _ h => h) (Or.inl ⟨by rfl, by intro w; go_simp; first | done | with_reducible rfl⟩) ?_
            simp only [List.getElem_toArray, List.getElem_cons_succ, List.getElem_cons_zero, Act.put, List.setIfInBounds_toArray, List.set_cons_zero, List.set_cons_succ]
            refine wpAny_take (i := 4) (v := ?_) rfl (by kernel_rfl) (by kernel_rfl) (by kernel_rfl) (fun _ _ _ h => h) (Or.inl ⟨by rfl, by intro w; go_simp; first | done | with_reducible rfl⟩) ?_
            simp only [List.getElem_toArray, List.getElem_cons_succ, List.getElem_cons_zero, Act.put, List.setIfInBounds_toArray, List.set_cons_zero, List.set_cons_succ]
            refine wpAny_take (i := 5) (v := ?_) rfl (by kernel_rfl) (by kernel_rfl) (by kernel_rfl) (fun _ _ _ h => h) (Or.inl ⟨by rfl, by intro w; go_simp; first | done | with_reducible rfl⟩) ?_
            simp only [List.getElem_toArray, List.getElem_cons_succ, List.getElem_cons_zero, Act.put, List.setIfInBounds_toArray, List.set_cons_zero, List.set_cons_succ]
            refine wpAny_ready (rs := [1, 6, 9]) (by kernel_rfl) (by simp) ?_
            refine AllReady.cons rfl (fun K hK => ?_) ?_
            · have hK' := hK; clear hK; have hK := hK'; clear hK'
              go_simp
              refine hK _ _ ?_
              clear hK K
              refine wpAny_ready (rs := [6, 9]) (by kernel_rfl) (by simp) ?_
              refine AllReady.cons rfl (fun K hK => ?_) ?_
              · have hK' := hK; clear hK; have hK := hK'; clear hK'
                go_simp
                refine hK _ _ ?_
                clear hK K
                refine wpAny_take (i := 7) (v := ?_) rfl (by kernel_rfl) (by kernel_rfl) (by kernel_rfl) (fun _ _ _ h => h) (Or.inl ⟨by rfl, by intro w; go_simp; first | done | with_reducible rfl⟩) ?_
                simp only [List.getElem_toArray, List.getElem_cons_succ, List.getElem_cons_zero, Act.put, List.setIfInBounds_toArray, List.set_cons_zero, List.set_cons_succ]
                refine wpAny_ready (rs := [8, 9]) (by kernel_rfl) (by simp) ?_
                refine AllReady.cons rfl (fun K hK => ?_) ?_
                · have hK' := hK; clear hK; have hK := hK'; clear hK'
                  go_simp
                  refine hK _ _ ?_
                  clear hK K
                  refine wpAny_ready (rs := [9]) (by kernel_rfl) (by simp) ?_
                  refine AllReady.cons rfl (fun K hK => ?_) ?_
                  · have hK' := hK; clear hK; have hK := hK'; clear hK'
                    go_simp
                    refine hK _ _ ?_
                    clear hK K
                    refine wpAny_ready (rs := [10]) (by kernel_rfl) (by simp) ?_
                    refine AllReady.cons rfl (fun K hK => ?_) ?_
                    · have hK' := hK; clear hK; have hK := hK'; clear hK'
                      go_simp
                      refine hK _ _ ?_
                      clear hK K
                      refine wpAny_done (by kernel_rfl) ?_ _
                      go_wp2_with (fail)
                      go_meet
                      exact ⟨_, rfl, hpNewD W1 _, (Below.refl W1.heap.size W1).drew.alloc (Nat.le_refl _) _⟩
                    exact AllReady.nil
                  exact AllReady.nil
                refine AllReady.cons rfl (fun K hK => ?_) ?_
                · have hK' := hK; clear hK; have hK := hK'; clear hK'
                  go_simp
                  refine hK _ _ ?_
                  clear hK K
                  refine wpAny_ready (rs := [8]) (by kernel_rfl) (by simp) ?_
                  refine AllReady.cons rfl (fun K hK => ?_) ?_
                  · have hK' := hK; clear hK; have hK := hK'; clear hK'
                    go_simp
                    refine hK _ _ ?_
                    clear hK K
                    refine wpAny_ready (rs := [10]) (by kernel_rfl) (by simp) ?_
                    refine AllReady.cons rfl (fun K hK => ?_) ?_
                    · have hK' := hK; clear hK; have hK := hK'; clear hK'
                      go_simp
                      refine hK _ _ ?_
                      clear hK K
                      refine wpAny_done (by kernel_rfl) ?_ _
                      go_wp2_with (fail)
                      go_meet
                      exact ⟨_, rfl, hpNewD W1 _, (Below.refl W1.heap.size W1).drew.alloc (Nat.le_refl _) _⟩
                    exact AllReady.nil
                  exact AllReady.nil
                exact AllReady.nil
              refine AllReady.cons rfl (fun K hK => ?_) ?_
              · have hK' := hK; clear hK; have hK := hK'; clear hK'
                go_simp
                refine hK _ _ ?_
                clear hK K
                refine wpAny_ready (rs := [6]) (by kernel_rfl) (by simp) ?_
                refine AllReady.cons rfl (fun K hK => ?_) ?_
                · have hK' := hK; clear hK; have hK := hK'; clear hK'
                  go_simp
                  refine hK _ _ ?_
                  clear hK K
                  refine wpAny_take (i := 7) (v := ?_) rfl (by kernel_rfl) (by kernel_rfl) (by kernel_rfl) (fun _ _ _ h => h) (Or.inl ⟨by rfl, by intro w; go_simp; first | done | with_reducible rfl⟩) ?_
                  simp only [List.getElem_toArray, List.getElem_cons_succ, List.getElem_cons_zero, Act.put, List.setIfInBounds_toArray, List.set_cons_zero, List.set_cons_succ]
                  refine wpAny_ready (rs := [8]) (by kernel_rfl) (by simp) ?_
                  refine AllReady.cons rfl (fun K hK => ?_) ?_
                  · have hK' := hK; clear hK; have hK := hK'; clear hK'
                    go_simp
                    refine hK _ _ ?_
                    clear hK K
                    refine wpAny_ready (rs := [10]) (by kernel_rfl) (by simp) ?_
                    refine AllReady.cons rfl (fun K hK => ?_) ?_
                    · have hK' := hK; clear hK; have hK := hK'; clear hK'
                      go_simp
                      refine hK _ _ ?_
                      clear hK K
                      refine wpAny_done (by kernel_rfl) ?_ _
                      go_wp2_with (fail)
                      go_meet
                      exact ⟨_, rfl, hpNewD W1 _, (Below.refl W1.heap.size W1).drew.alloc (Nat.le_refl _) _⟩
                    exact AllReady.nil
                  exact AllReady.nil
                exact AllReady.nil
              exact AllReady.nil
            refine AllReady.cons rfl (fun K hK => ?_) ?_
            · have hK' := hK; clear hK; have hK := hK'; clear hK'
              go_simp
              refine hK _ _ ?_
              clear hK K
              refine wpAny_ready (rs := [1, 9]) (by kernel_rfl) (by simp) ?_
              refine AllReady.cons rfl (fun K hK => ?_) ?_
              · have hK' := hK; clear hK; have hK := hK'; clear hK'
                go_simp
                refine hK _ _ ?_
                clear hK K
                refine wpAny_take (i := 7) (v := ?_) rfl (by kernel_rfl) (by kernel_rfl) (by kernel_rfl) (fun _ _ _ h => h) (Or.inl ⟨by rfl, by intro w; go_simp; first | done | with_reducible rfl⟩) ?_
                simp only [List.getElem_toArray, List.getElem_cons_succ, List.getElem_cons_zero, Act.put, List.setIfInBounds_toArray, List.set_cons_zero, List.set_cons_succ]
                refine wpAny_ready (rs := [8, 9]) (by kernel_rfl) (by simp) ?_
                refine AllReady.cons rfl (fun K hK => ?_) ?_
                · have hK' := hK; clear hK; have hK := hK'; clear hK'
                  go_simp
                  refine hK _ _ ?_
                  clear hK K
                  refine wpAny_ready (rs := [9]) (by kernel_rfl) (by simp) ?_
                  refine AllReady.cons rfl (fun K hK => ?_) ?_
                  · have hK' := hK; clear hK; have hK := hK'; clear hK'
                    go_simp
                    refine hK _ _ ?_
                    clear hK K
                    refine wpAny_ready (rs := [10]) (by kernel_rfl) (by simp) ?_
                    refine AllReady.cons rfl (fun K hK => ?_) ?_
                    · have hK' := hK; clear hK; have hK := hK'; clear hK'
                      go_simp
                      refine hK _ _ ?_
                      clear hK K
                      refine wpAny_done (by kernel_rfl) ?_ _
                      go_wp2_with (fail)
                      go_meet
                      exact ⟨_, rfl, hpNewD W1 _, (Below.refl W1.heap.size W1).drew.alloc (Nat.le_refl _) _⟩
                    exact AllReady.nil
                  exact AllReady.nil
                refine AllReady.cons rfl (fun K hK => ?_) ?_
                · have hK' := hK; clear hK; have hK := hK'; clear hK'
                  go_simp
                  refine hK _ _ ?_
                  clear hK K
                  refine wpAny_ready (rs := [8]) (by kernel_rfl) (by simp) ?_
                  refine AllReady.cons rfl (fun K hK => ?_) ?_
                  · have hK' := hK; clear hK; have hK := hK'; clear hK'
                    go_simp
                    refine hK _ _ ?_
                    clear hK K
                    refine wpAny_ready (rs := [10]) (by kernel_rfl) (by simp) ?_
                    refine AllReady.cons rfl (fun K hK => ?_) ?_
                    · have hK' := hK; clear hK; have hK := hK'; clear hK'
                      go_simp
                      refine hK _ _ ?_
                      clear hK K
                      refine wpAny_done (by kernel_rfl) ?_ _
                      go_wp2_with (fail)
                      go_meet
                      exact ⟨_, rfl, hpNewD W1 _, (Below.refl W1.heap.size W1).drew.alloc (Nat.le_refl _) _⟩
                    exact AllReady.nil
                  exact AllReady.nil
                exact AllReady.nil
              refine AllReady.cons rfl (fun K hK => ?_) ?_
              · have hK' := hK; clear hK; have hK := hK'; clear hK'
                go_simp
                refine hK _ _ ?_
                clear hK K
                refine wpAny_ready (rs := [1]) (by kernel_rfl) (by simp) ?_
                refine AllReady.cons rfl (fun K hK => ?_) ?_
                · have hK' := hK; clear hK; have hK := hK'; clear hK'
                  go_simp
                  refine hK _ _ ?_
                  clear hK K
                  refine wpAny_take (i := 7) (v := ?_) rfl (by kernel_rfl) (by kernel_rfl) (by kernel_rfl) (fun _ _ _ h => h) (Or.inl ⟨by rfl, by intro w; go_simp; first | done | with_reducible rfl⟩) ?_
                  simp only [List.getElem_toArray, List.getElem_cons_succ, List.getElem_cons_zero, Act.put, List.setIfInBounds_toArray, List.set_cons_zero, List.set_cons_succ]
                  refine wpAny_ready (rs := [8]) (by kernel_rfl) (by simp) ?_
                  refine AllReady.cons rfl (fun K hK => ?_) ?_
                  · have hK' := hK; clear hK; have hK := hK'; clear hK'
                    go_simp
                    refine hK _ _ ?_
                    clear hK K
                    refine wpAny_ready (rs := [10]) (by kernel_rfl) (by simp) ?_
                    refine AllReady.cons rfl (fun K hK => ?_) ?_
                    · have hK' := hK; clear hK; have hK := hK'; clear hK'
                      go_simp
                      refine hK _ _ ?_
                      clear hK K
                      refine wpAny_done (by kernel_rfl) ?_ _
                      go_wp2_with (fail)
                      go_meet
                      exact ⟨_, rfl, hpNewD W1 _, (Below.refl W1.heap.size W1).drew.alloc (Nat.le_refl _) _⟩
                    exact AllReady.nil
                  exact AllReady.nil
                exact AllReady.nil
              exact AllReady.nil
            refine AllReady.cons rfl (fun K hK => ?_) ?_
            · have hK' := hK; clear hK; have hK := hK'; clear hK'
              go_simp
              refine hK _ _ ?_
              clear hK K
              refine wpAny_ready (rs := [1, 6]) (by kernel_rfl) (by simp) ?_
              refine AllReady.cons rfl (fun K hK => ?_) ?_
              · have hK' := hK; clear hK; have hK := hK'; clear hK'
                go_simp
                refine hK _ _ ?_
                clear hK K
                refine wpAny_ready (rs := [6]) (by kernel_rfl) (by simp) ?_
                refine AllReady.cons rfl (fun K hK => ?_) ?_
                · have hK' := hK; clear hK; have hK := hK'; clear hK'
                  go_simp
                  refine hK _ _ ?_
                  clear hK K
                  refine wpAny_take (i := 7) (v := ?_) rfl (by kernel_rfl) (by kernel_rfl) (by kernel_rfl) (fun _ _ _ h => h) (Or.inl ⟨by rfl, by intro w; go_simp; first | done | with_reducible rfl⟩) ?_
                  simp only [List.getElem_toArray, List.getElem_cons_succ, List.getElem_cons_zero, Act.put, List.setIfInBounds_toArray, List.set_cons_zero, List.set_cons_succ]
                  refine wpAny_ready (rs := [8]) (by kernel_rfl) (by simp) ?_
                  refine AllReady.cons rfl (fun K hK => ?_) ?_
                  · have hK' := hK; clear hK; have hK := hK'; clear hK'
                    go_simp
                    refine hK _ _ ?_
                    clear hK K
                    refine wpAny_ready (rs := [10]) (by kernel_rfl) (by simp) ?_
                    refine AllReady.cons rfl (fun K hK => ?_) ?_
                    · have hK' := hK; clear hK; have hK := hK'; clear hK'
                      go_simp
                      refine hK _ _ ?_
                      clear hK K
                      refine wpAny_done (by kernel_rfl) ?_ _
                      go_wp2_with (fail)
                      go_meet
                      exact ⟨_, rfl, hpNewD W1 _, (Below.refl W1.heap.size W1).drew.alloc (Nat.le_refl _) _⟩
                    exact AllReady.nil
                  exact AllReady.nil
                exact AllReady.nil
              refine AllReady.cons rfl (fun K hK => ?_) ?_
              · have hK' := hK; clear hK; have hK := hK'; clear hK'
                go_simp
                refine hK _ _ ?_
                clear hK K
                refine wpAny_ready (rs := [1]) (by kernel_rfl) (by simp) ?_
                refine AllReady.cons rfl (fun K hK => ?_) ?_
                · have hK' := hK; clear hK; have hK := hK'; clear hK'
                  go_simp
                  refine hK _ _ ?_
                  clear hK K
                  refine wpAny_take (i := 7) (v := ?_) rfl (by kernel_rfl) (by kernel_rfl) (by kernel_rfl) (fun _ _ _ h => h) (Or.inl ⟨by rfl, by intro w; go_simp; first | done | with_reducible rfl⟩) ?_
                  simp only [List.getElem_toArray, List.getElem_cons_succ, List.getElem_cons_zero, Act.put, List.setIfInBounds_toArray, List.set_cons_zero, List.set_cons_succ]
                  refine wpAny_ready (rs := [8]) (by kernel_rfl) (by simp) ?_
                  refine AllReady.cons rfl (fun K hK => ?_) ?_
                  · have hK' := hK; clear hK; have hK := hK'; clear hK'
                    go_simp
                    refine hK _ _ ?_
                    clear hK K
                    refine wpAny_ready (rs := [10]) (by kernel_rfl) (by simp) ?_
                    refine AllReady.cons rfl (fun K hK => ?_) ?_
                    · have hK' := hK; clear hK; have hK := hK'; clear hK'
                      go_simp
                      refine hK _ _ ?_
                      clear hK K
                      refine wpAny_done (by kernel_rfl) ?_ _
                      go_wp2_with (fail)
                      go_meet
                      exact ⟨_, rfl, hpNewD W1 _, (Below.refl W1.heap.size W1).drew.alloc (Nat.le_refl _) _⟩
                    exact AllReady.nil
                  exact AllReady.nil
                exact AllReady.nil
              exact AllReady.nil
            exact AllReady.nil
        case rest =>
          obtain ⟨g, rfl, hg, hbx⟩ := hcut
          have s0 := blkC hg 0
          have s1 := blkC hg 1
          have lg := blkX hg
          simp only [List.getElem?_toArray, List.getElem?_cons_zero, List.getElem?_cons_succ] at s0 s1
          have hO2 := Lib.hid (hO.out.keep hbx)
          have e2' := f2.out wc hO2.out.bel
          replace hg := Lib.hid hg; replace hbx := Lib.hid hbx
          clear e0 e1 e2 sc0 sc1 gd hbW
          by_cases hkk : sk = key
          · have e1k : (sk.toList == key.toList) = true := by rw [str_eq]; exact decide_eq_true hkk
            rcases (by omega : p = 1 ∨ p = 2 ∨ p = 3) with hp' | hp' | hp'
            · subst hp'
              have hL := Lib.hid (show rpartsL ss key (l.take (k + 1)) = rpartsL ss key (l.take k) ++ [sd] from by rw [hpt.out]; simp [hkk])
              obtain ⟨A3, c3, V3, hrun, hO3, hkeep⟩ := OwnN.push3 hO2.out hn' (sd) 1
              have hg3 := hkeep g _ _ _ hg.out (by decide)
              have r0 := blkC hg3 0
              have r2 := f2.out V3 hO3.bel
              simp only [List.getElem?_toArray, List.getElem?_cons_zero, List.getElem?_cons_succ] at r0
              replace hO3 := Lib.hid hO3; replace hkk := Lib.hid hkk; replace hg3 := Lib.hid hg3; replace hkeep := Lib.hid hkeep
              go_wp2_with (fail)
              exact ⟨⟨k + 1, n' + 1, A3, c3, by omega, by go_num, rfl, by rw [hL.out]; exact hO3.out⟩, by simp [intOf]; omega⟩
            · subst hp'
              have hL := Lib.hid (show rpartsL ss key (l.take (k + 1)) = rpartsL ss key (l.take k) ++ [-sd] from by rw [hpt.out]; simp [hkk])
              obtain ⟨A3, c3, V3, hrun, hO3, hkeep⟩ := OwnN.push3 hO2.out hn' (-sd) 1
              have hg3 := hkeep g _ _ _ hg.out (by decide)
              have r0 := blkC hg3 0
              have r2 := f2.out V3 hO3.bel
              simp only [List.getElem?_toArray, List.getElem?_cons_zero, List.getElem?_cons_succ] at r0
              replace hO3 := Lib.hid hO3; replace hkk := Lib.hid hkk; replace hg3 := Lib.hid hg3; replace hkeep := Lib.hid hkeep
              go_wp2_with (fail)
              exact ⟨⟨k + 1, n' + 1, A3, c3, by omega, by go_num, rfl, by rw [hL.out]; exact hO3.out⟩, by simp [intOf]; omega⟩
            · subst hp'
              have hL := Lib.hid (show rpartsL ss key (l.take (k + 1)) = rpartsL ss key (l.take k) from by rw [hpt.out]; simp [hkk])
              replace hkk := Lib.hid hkk
              go_wp2_with (fail)
              exact ⟨⟨k + 1, n', A', c', by omega, by go_num, rfl, by rw [hL.out]; exact hO2.out⟩, by simp [intOf]; omega⟩
          · have e1k : (sk.toList == key.toList) = false := by rw [str_eq]; exact decide_eq_false hkk
            have hL := Lib.hid (show rpartsL ss key (l.take (k + 1)) = rpartsL ss key (l.take k) from by rw [hpt.out]; simp [hkk])
            replace hkk := Lib.hid hkk
            go_wp2_with (fail)
            exact ⟨⟨k + 1, n', A', c', by omega, by go_num, rfl, by rw [hL.out]; exact hO2.out⟩, by simp [intOf]; omega⟩
      · obtain rfl : k = m := by omega
        rw [List.take_of_length_le (by have := hl.out; omega)] at hO
        have hN := rsumN_any A' n' c' _ W1 hO.ns
        replace hO := Lib.hid hO; replace hb1 := Lib.hid hb1
        go_wp2_with (fail)
        refine hN.mono ?_
        rintro e w5 ⟨rfl, rfl⟩
        go_wp2_with (fail)
        refine bodyPost_ret (results_tmp2 rfl _ _ _) rfl ?_
        exact ⟨rfl, hb1.out⟩
  · have hf := Lib.hid (sumR_bad (key := key) hz)
    have hzb : (chkC nm r dl ss l != 0) = true := by simp [hz]
    generalize chkC nm r dl ss l = q at *
    replace h := Lib.hid h; replace hE := Lib.hid hE; replace hl := Lib.hid hl; replace hsl := Lib.hid hsl; replace hkeys := Lib.hid hkeys; replace kb := Lib.hid kb; replace hnew := Lib.hid hnew; replace hz := Lib.hid hz
    go_enter Tryd.func9, Tryd.ntmps9
    go_wp2_with (fail)
    refine hC.mono ?_
    rintro e w1 ⟨rfl, b1⟩
    go_wp2_with (fail)
    refine bodyPost_ret (results_tmp2 rfl _ _ _) rfl ?_
    exact ⟨by rw [hf.out]; rfl, kb.out.trans (b1.mono kb.out.size)⟩
end Go.Proofs.YthmkfbabacehnaaDoor
