/- Held: the document's. -/
import Derived.Test.YthmkfbabacehnaaDoorRSumD
namespace Go.Proofs.YthmkfbabacehnaaDoor
open Go.RowKit Go.Shelf
set_option linter.unusedSimpArgs false
set_option linter.unusedVariables false
set_option linter.unusedSectionVars false
set_option maxRecDepth 10000
attribute [local go_sem ↓] hideAppend
/-- Two rows of numbers of the call's own, apart. -/
structure TwoN (w : World) (A : Option Addr) (n c : Nat) (l : List Int) (B : Option Addr) (m d : Nat) (r : List Int) (W : World) : Prop where
  a : OwnN w A n c l W
  b : OwnN w B m d r W
  ne : ∀ g, rowOf A = some g → rowOf B ≠ some g
theorem TwoN.swap {w W : World} {A B : Option Addr} {n c m d : Nat} {l r : List Int} (h : TwoN w A n c l B m d r W) : TwoN w B m d r A n c l W := ⟨h.b, h.a, fun g e1 e2 => h.ne g e2 e1⟩
theorem TwoN.keep {w W W' : World} {A B : Option Addr} {n c m d : Nat} {l r : List Int} (h : TwoN w A n c l B m d r W) (hb : Below W.heap.size W W') : TwoN w A n c l B m d r W' := ⟨h.a.keep hb, h.b.keep hb, h.ne⟩
theorem TwoN.push {w W : World} {A B : Option Addr} {n c m d : Nat} {l r : List Int} (h : TwoN w A n c l B m d r W) (hn : n ≤ 1000000) (x : Int) (e : Nat) :
    ∃ A' c' W', (appSem #[52, 52] 52 #[.slice A n c, .slice (some ⟨W.heap.size, 0, none⟩) 1 e]).run Tryd.prog (W.alloc (.cells #[.int .i64 x] 2)) = .ok (.slice A' (n + 1) c') W' ∧ TwoN w A' (n + 1) c' (l ++ [x]) B m d r W' ∧ (∀ (g : Nat) (cs : Array Value) (T : TypeId) (f : Nat × Nat), W.heap[g]? = some (Obj.cells cs T f) → T ≠ 2 → W'.heap[g]? = some (Obj.cells cs T f)) := by
  have hb0 := (Below.refl W.heap.size W).alloc (Nat.le_refl _) (.cells #[.int .i64 x] 2)
  have h' := h.keep hb0
  obtain ⟨A', c', w1, hrun, hcap, hown, hgr, hat⟩ := append_sl elemN encN_len encN_one (ty := 52) (d := e) h'.a.own h'.a.bel.size (ns_one W x) (by omega) (by omega)
  have hbel := h'.a.bel.trans (below_of_grown hgr h'.a.bel.size fun g hg => (own_row h'.a.own g hg).1)
  have hkeep : ∀ g, g < (W.alloc (.cells #[.int .i64 x] 2)).heap.size → rowOf A ≠ some g → w1.heap[g]? = (W.alloc (.cells #[.int .i64 x] 2)).heap[g]? := fun g hg hne => hgr.block g hg fun e => hne e.symm
  refine ⟨A', c', w1, hrun, ⟨⟨hbel, hown, by simp [h.a.len], hcap⟩, ⟨hbel, ⟨h'.b.own.1, ?_⟩, h.b.len, h.b.cap⟩, fun g e1 e2 => ?_⟩, fun g cs T f hg hT => ?_⟩
  · rcases h'.b.own.2 with ⟨e1, e2⟩ | ⟨g, cp, cur, e1, e2, hh, rest⟩
    · exact .inl ⟨e1, e2⟩
    · refine .inr ⟨g, cp, cur, e1, e2, (hkeep g (blkX hh) fun q => h.ne g q ?_).trans hh, rest⟩
      injection e1 with e1; rw [e1]; rfl
  · have hr := (own_row h.b.own g e2).2
    rcases hat with q | q
    · exact h.ne g (q.symm.trans e1) e2
    · rw [q] at e1; injection e1 with e1; simp at e1; omega
  · have hg2 := (hb0.block g (blkX hg)).trans hg
    refine (hkeep g (blkX hg2) fun q => ?_).trans hg2
    rcases h'.a.own.2 with ⟨e1, _⟩ | ⟨g', cp, cur, e1, _, hh, _⟩
    · injection e1 with e1; rw [e1] at q; cases q
    · injection e1 with e1
      rw [e1] at q
      injection q with q
      subst q
      rw [hg2] at hh
      injection hh with hh
      injection hh with _ hh
      exact hT hh
theorem heldR_bad {nm : ByteArray} {r dl : Int} {ss : List St} {l : List Ef} {key : ByteArray} (h : ¬ chkC nm r dl ss l = 0) : heldR nm r dl ss l key = (0, 0, chkC nm r dl ss l) := by unfold heldR; rw [if_neg h]
theorem heldR_ok {nm : ByteArray} {r dl : Int} {ss : List St} {l : List Ef} {key : ByteArray} (h : chkC nm r dl ss l = 0) (h1 : (sumC (rupL ss key l)).2 = 0) (h2 : (sumC (rdnL ss key l)).2 = 0) : heldR nm r dl ss l key = ((sumC (rupL ss key l)).1, (sumC (rdnL ss key l)).1, 0) := by unfold heldR; rw [if_pos h, if_pos ⟨h1, h2⟩]
theorem heldR_over {nm : ByteArray} {r dl : Int} {ss : List St} {l : List Ef} {key : ByteArray} (h : chkC nm r dl ss l = 0) (h1 : ¬ ((sumC (rupL ss key l)).2 = 0 ∧ (sumC (rdnL ss key l)).2 = 0)) : heldR nm r dl ss l key = (0, 0, 7) := by unfold heldR; rw [if_pos h, if_neg h1]
theorem rup1_at {ss : List St} {key : ByteArray} {a : Int} {q p : Nat} {s : St} (h : ss[q]? = some s) : rup1 ss key (a, (q : Int), (p : Int)) = if decide (s.1 = key) && decide (0 < s.2) then [if p = 1 then s.2 else -s.2] else [] := by
  unfold rup1 rx
  have e1 : ((p : Int) = 1) = (p = 1) := propext (by omega)
  simp only [Int.toNat_natCast, h, e1]
theorem rdn1_at {ss : List St} {key : ByteArray} {a : Int} {q p : Nat} {s : St} (h : ss[q]? = some s) : rdn1 ss key (a, (q : Int), (p : Int)) = if decide (s.1 = key) && decide (s.2 < 0) then [-(if p = 1 then s.2 else -s.2)] else [] := by
  unfold rdn1 rx
  have e1 : ((p : Int) = 1) = (p = 1) := propext (by omega)
  simp only [Int.toNat_natCast, h, e1]
set_option maxHeartbeats 8000000 in
theorem rheld_any (nm : ByteArray) (r dl : Int) (A : Option Addr) (n c : Nat) (ss : List St) (B : Option Addr) (m d : Nat) (l : List Ef) (key : ByteArray) (w : World) (hnm : nm.size ≤ 140737488355328) (h : SS w A n ss) (hn : n ≤ 140737488355328) (hnc : n ≤ c) (hkeys : ∀ x ∈ ss, x.1.size ≤ 140737488355328) (hE : ES w B m l) (hm : m ≤ 100000) :
    Calls Tryd.prog 11 #[.agg #[.string nm, .int .i64 r, .int .i64 dl, .slice A n c], .slice B m d, .string key] w fun e w' => e = .returned (.tuple #[.int .i64 (heldR nm r dl ss l key).1, .int .i64 (heldR nm r dl ss l key).2.1, .int .i64 (heldR nm r dl ss l key).2.2]) ∧ Below w.heap.size w w' := by
  have hl := hE.1
  have hsl := h.1
  have kb := (Below.refl w.heap.size w).alloc (Nat.le_refl _) (.cells #[.string nm, .int .i64 r, .int .i64 dl, .slice A n c] 24)
  have hnew := hpNew w (.cells #[.string nm, .int .i64 r, .int .i64 dl, .slice A n c] 24)
  have hC := rchk_any nm r dl A n c ss B m d l (w.alloc (.cells #[.string nm, .int .i64 r, .int .i64 dl, .slice A n c] 24)) hnm (SL.keep h kb) hn hnc hkeys (SL.keep hE kb) (by omega)
  by_cases hz : chkC nm r dl ss l = 0
  · obtain ⟨z1, z2, z3⟩ := chk_zero hz
    have hgood := fun q1 q2 => heldR_ok (key := key) hz q1 q2
    have hover := fun q1 => heldR_over (key := key) hz q1
    generalize heldR nm r dl ss l key = hp3 at *
    rw [hz] at hC
    rw [hsl] at z3
    replace h := Lib.hid h; replace hE := Lib.hid hE; replace hl := Lib.hid hl; replace hsl := Lib.hid hsl; replace hkeys := Lib.hid hkeys; replace kb := Lib.hid kb; replace hnew := Lib.hid hnew; replace hz := Lib.hid hz; replace z1 := Lib.hid z1; replace z3 := Lib.hid z3; replace hgood := Lib.hid hgood; replace hover := Lib.hid hover
    go_enter Tryd.func11, Tryd.ntmps11
    go_wp2_with (fail)
    refine hC.mono ?_
    rintro e w1 ⟨rfl, b1⟩
    have hh1 := (b1.block _ (by simp)).trans hnew.out
    have d3 := blkC hh1 3
    have lt0 := blkX hh1
    simp only [List.getElem?_toArray, List.getElem?_cons_zero, List.getElem?_cons_succ] at d3
    have hb0 := kb.out.trans (b1.mono kb.out.size)
    replace hh1 := Lib.hid hh1; replace hb0 := Lib.hid hb0; replace d3 := Lib.hid d3
    clear b1 hC
    go_wp2_with (fail)
    go_loopw [10, 11, 12] (fun v u i wr => ∃ (k n' m' : Nat) (A' B' : Option Addr) (c' d' : Nat), k ≤ m ∧ i = .int .i64 k ∧ v = .slice A' n' c' ∧ u = .slice B' m' d' ∧ TwoN w1 A' n' c' (rupL ss key (l.take k)) B' m' d' (rdnL ss key (l.take k)) wr) (fun _ _ i _ => m - (intOf i).toNat)
    case atStart => exact ⟨0, 0, 0, none, none, 0, 0, by omega, rfl, rfl, rfl, ⟨OwnN.nil _, OwnN.nil _, fun g e => by cases e⟩⟩
    case round =>
      revert wr
      intro W1 hrel
      obtain ⟨k, n', m', A', B', c', d', hk, rfl, rfl, rfl, hT⟩ := hrel
      have hpu := rup_len ss key (l.take k)
      have hpd := rdn_len ss key (l.take k)
      have hn' : n' ≤ 1000000 := by rw [hT.a.len, List.length_take] at hpu; omega
      have hm' : m' ≤ 1000000 := by rw [hT.b.len, List.length_take] at hpd; omega
      have hbW := hT.a.bel
      have hb1 := hb0.out.trans (hbW.mono hb0.out.size)
      have lt1 := Nat.lt_of_lt_of_le lt0 hbW.size
      by_cases hlt : k < m
      · skip
        obtain ⟨b, o, ⟨x0, x1, x2'⟩, rfl, hbl, hx, e0, e1, e2⟩ := ES.at_ (SL.keep hE.out hb0.out) hlt
        obtain ⟨q, p, hq1, hq, hp1, hp, hp3⟩ := okA_nat (z3.out _ (List.mem_of_getElem? hx))
        simp only at hq1 hp1 e0 e1 e2
        subst hq1 hp1
        have f2 := Lib.hid (fun V (q : Below w1.heap.size w1 V) => (q.cell (p := ⟨b, o + k * 3 + 2, none⟩) hbl).trans e2)
        replace e0 := (hbW.cell (p := ⟨b, o + k * 3, none⟩) hbl).trans e0
        replace e1 := (hbW.cell (p := ⟨b, o + k * 3 + 1, none⟩) hbl).trans e1
        replace e2 := (hbW.cell (p := ⟨b, o + k * 3 + 2, none⟩) hbl).trans e2
        replace hbl := Nat.lt_of_lt_of_le hbl hbW.size
        obtain ⟨sb, so, ⟨sk, sd⟩, hA, hsb, hs, sc0, sc1⟩ := SS.at_ (SL.keep h.out hb1) hq
        subst hA
        simp only at sc0 sc1
        have hsd := (okV_iff _).1 (stepsOK_at z1.out hs).2.1
        simp only at hsd
        have j0 : (0 : Int) ≤ k := by omega
        have j1 : (k : Int) < m := by omega
        have q0 : (0 : Int) ≤ q := by omega
        have q1 : (q : Int) < n := by omega
        have hptu : rupL ss key (l.take (k + 1)) = rupL ss key (l.take k) ++ rup1 ss key (x0, (q : Int), (p : Int)) := flat_take hx
        have hptd : rdnL ss key (l.take (k + 1)) = rdnL ss key (l.take k) ++ rdn1 ss key (x0, (q : Int), (p : Int)) := flat_take hx
        rw [rup1_at hs] at hptu
        rw [rdn1_at hs] at hptd
        simp only at hptu hptd
        have gd := (hbW.cell (p := ⟨w.heap.size, 3, none⟩) lt0).trans d3.out
        replace hT := Lib.hid hT; replace hx := Lib.hid hx; replace hs := Lib.hid hs; replace hpu := Lib.hid hpu; replace hpd := Lib.hid hpd; replace hptu := Lib.hid hptu; replace hptd := Lib.hid hptd; replace hb1 := Lib.hid hb1
        go_wp2_with (fail)
        go_upto_region 8 with (fail)
        go_cut [13] from 40 to 76 (fun v wx => ∃ g, v = .pointer (some ⟨g, 0, none⟩) ∧ wx.heap[g]? = some (.cells #[.string sk, .int .i64 sd] 41 (0, 0)) ∧ Below W1.heap.size W1 wx)
        case first =>
          as_aux_lemma =>
            refine wp_region_any (by kernel_rfl) ?_
            try (change wpAny _ _ _ _ _ _ _ (World.drew _))
            refine wpAny_take (i := 0) (v := ?_) rfl (by kernel_rfl) (by kernel_rfl) (by kernel_rfl) (fun _ _ _ h => h) (Or.inl ⟨by rfl, by intro w; go_simp; first | done | with_reducible rfl⟩) ?_
            simp only [List.getElem_toArray, List.getElem_cons_succ, List.getElem_cons_zero, Act.put, List.setIfInBounds_toArray, List.set_cons_zero, List.set_cons_succ]
            refine wpAny_take (i := 2) (v := ?_) rfl (by kernel_rfl) (by kernel_rfl) (by kernel_rfl) (fun _ _ _ h => h) (Or.inl ⟨by rfl, by intro w; go_simp; first | done | with_reducible rfl⟩) ?_
            simp only [List.getElem_toArray, List.getElem_cons_succ, List.getElem_cons_zero, Act.put, List.setIfInBounds_toArray, List.set_cons_zero, List.set_cons_succ]
            refine wpAny_take (i := 3) (v := ?_) rfl (by kernel_rfl) (by kernel_rfl) (by kernel_rfl) (fun _ _ _ h => h) (Or.inl ⟨by rfl, by intro w; go_simp; first | done | with_reducible rfl⟩) ?_
            simp only [List.getElem_toArray, List.getElem_cons_succ, List.getElem_cons_zero, Act.put, List.setIfInBounds_toArray, List.set_cons_zero, List.set_cons_succ]
            refine wpAny_take (i := 4) (v := ?_) rfl (by kernel_rfl) (by kernel_rfl) (by kernel_rfl) (fun _ _ _ h => h) (Or.inl ⟨by rfl, by intro w; go_simp; first | done | with_reducible rfl⟩) ?_
            simp only [List.getElem_toArray, List.getElem_cons_succ, List.getElem_cons_zero, Act.put, List.setIfInBounds_toArray, List.set_cons_zero, List.set_cons_succ]
            refine wpAny_take (i := 5) (v := ?_) rfl (by kernel_rfl) (by kernel_rfl) (by kernel_rfl) (fun _ _ _ h => h) (Or.inl ⟨by rfl, by intro w; go_simp; first | done | with_reducible rfl⟩) ?_
            simp only [List.getElem_toArray, List.getElem_cons_succ, List.getElem_cons_zero, Act.put, List.setIfInBounds_toArray, List.set_cons_zero, List.set_cons_succ]
            refine wpAny_ready (rs := [1, 6, 9]) (by kernel_rfl) (by simp) ?_
            refine AllReady.cons rfl (fun K hK => ?_) ?_
            · have hK' := hK; clear hK; have hK := hK'; clear hK'
              go_simp
              refine hK _ _ ?_
              clear hK K
              refine wpAny_ready (rs := [6, 9]) (by kernel_rfl) (by simp) ?_
              refine AllReady.cons rfl (fun K hK => ?_) ?_
              · have hK' := hK; clear hK; have hK := hK'; clear hK'
                go_simp
                refine hK _ _ ?_
                clear hK K
                refine wpAny_take (i := 7) (v := ?_) rfl (by kernel_rfl) (by kernel_rfl) (by kernel_rfl) (fun _ _ _ h => h) (Or.inl ⟨by rfl, by intro w; go_simp; first | done | with_reducible rfl⟩) ?_
                simp only [List.getElem_toArray, List.getElem_cons_succ, List.getElem_cons_zero, Act.put, List.setIfInBounds_toArray, List.set_cons_zero, List.set_cons_succ]
                refine wpAny_ready (rs := [8, 9]) (by kernel_rfl) (by simp) ?_
                refine AllReady.cons rfl (fun K hK => ?_) ?_
                · have hK' := hK; clear hK; have hK := hK'; clear hK'
                  go_simp
                  refine hK _ _ ?_
                  clear hK K
                  refine wpAny_ready (rs := [9]) (by kernel_rfl) (by simp) ?_
                  refine AllReady.cons rfl (fun K hK => ?_) ?_
                  · have hK' := hK; clear hK; have hK := hK'; clear hK'
                    go_simp
                    refine hK _ _ ?_
                    clear hK K
                    refine wpAny_ready (rs := [10]) (by kernel_rfl) (by simp) ?_
                    refine AllReady.cons rfl (fun K hK => ?_) ?_
                    · have hK' := hK; clear hK; have hK := hK'; clear hK'
                      go_simp
                      refine hK _ _ ?_
                      clear hK K
                      refine wpAny_done (by kernel_rfl) ?_ _
                      go_wp2_with (fail)
                      go_meet
                      exact ⟨_, rfl, hpNewD W1 _, (Below.refl W1.heap.size W1).drew.alloc (Nat.le_refl _) _⟩
                    exact AllReady.nil
                  exact AllReady.nil
                refine AllReady.cons rfl (fun K hK => ?_) ?_
                · have hK' := hK; clear hK; have hK := hK'; clear hK'
                  go_simp
                  refine hK _ _ ?_
                  clear hK K
                  refine wpAny_ready (rs := [8]) (by kernel_rfl) (by simp) ?_
                  refine AllReady.cons rfl (fun K hK => ?_) ?_
                  · have hK' := hK; clear hK; have hK := hK'; clear hK'
                    go_simp
                    refine hK _ _ ?_
                    clear hK K
                    refine wpAny_ready (rs := [10]) (by kernel_rfl) (by simp) ?_
                    refine AllReady.cons rfl (fun K hK => ?_) ?_
                    · have hK' := hK; clear hK; have hK := hK'; clear hK'
                      go_simp
                      refine hK _ _ ?_
                      clear hK K
                      refine wpAny_done (by kernel_rfl) ?_ _
                      go_wp2_with (fail)
                      go_meet
                      exact ⟨_, rfl, hpNewD W1 _, (Below.refl W1.heap.size W1).drew.alloc (Nat.le_refl _) _⟩
                    exact AllReady.nil
                  exact AllReady.nil
                exact AllReady.nil
              refine AllReady.cons rfl (fun K hK => ?_) ?_
              · have hK' := hK; clear hK; have hK := hK'; clear hK'
                go_simp
                refine hK _ _ ?_
                clear hK K
                refine wpAny_ready (rs := [6]) (by kernel_rfl) (by simp) ?_
                refine AllReady.cons rfl (fun K hK => ?_) ?_
                · have hK' := hK; clear hK; have hK := hK'; clear hK'
                  go_simp
                  refine hK _ _ ?_
                  clear hK K
                  refine wpAny_take (i := 7) (v := ?_) rfl (by kernel_rfl) (by kernel_rfl) (by kernel_rfl) (fun _ _ _ h => h) (Or.inl ⟨by rfl, by intro w; go_simp; first | done | with_reducible rfl⟩) ?_
                  simp only [List.getElem_toArray, List.getElem_cons_succ, List.getElem_cons_zero, Act.put, List.setIfInBounds_toArray, List.set_cons_zero, List.set_cons_succ]
                  refine wpAny_ready (rs := [8]) (by kernel_rfl) (by simp) ?_
                  refine AllReady.cons rfl (fun K hK => ?_) ?_
                  · have hK' := hK; clear hK; have hK := hK'; clear hK'
                    go_simp
                    refine hK _ _ ?_
                    clear hK K
                    refine wpAny_ready (rs := [10]) (by kernel_rfl) (by simp) ?_
                    refine AllReady.cons rfl (fun K hK => ?_) ?_
                    · have hK' := hK; clear hK; have hK := hK'; clear hK'
                      go_simp
                      refine hK _ _ ?_
                      clear hK K
                      refine wpAny_done (by kernel_rfl) ?_ _
                      go_wp2_with (fail)
                      go_meet
                      exact ⟨_, rfl, hpNewD W1 _, (Below.refl W1.heap.size W1).drew.alloc (Nat.le_refl _) _⟩
                    exact AllReady.nil
                  exact AllReady.nil
                exact AllReady.nil
              exact AllReady.nil
            refine AllReady.cons rfl (fun K hK => ?_) ?_
            · have hK' := hK; clear hK; have hK := hK'; clear hK'
              go_simp
              refine hK _ _ ?_
              clear hK K
              refine wpAny_ready (rs := [1, 9]) (by kernel_rfl) (by simp) ?_
              refine AllReady.cons rfl (fun K hK => ?_) ?_
              · have hK' := hK; clear hK; have hK := hK'; clear hK'
                go_simp
                refine hK _ _ ?_
                clear hK K
                refine wpAny_take (i := 7) (v := ?_) rfl (by kernel_rfl) (by kernel_rfl) (by kernel_rfl) (fun _ _ _ h => h) (Or.inl ⟨by rfl, by intro w; go_simp; first | done | with_reducible rfl⟩) ?_
                simp only [List.getElem_toArray, List.getElem_cons_succ, List.getElem_cons_zero, Act.put, List.setIfInBounds_toArray, List.set_cons_zero, List.set_cons_succ]
                refine wpAny_ready (rs := [8, 9]) (by kernel_rfl) (by simp) ?_
                refine AllReady.cons rfl (fun K hK => ?_) ?_
                · have hK' := hK; clear hK; have hK := hK'; clear hK'
                  go_simp
                  refine hK _ _ ?_
                  clear hK K
                  refine wpAny_ready (rs := [9]) (by kernel_rfl) (by simp) ?_
                  refine AllReady.cons rfl (fun K hK => ?_) ?_
                  · have hK' := hK; clear hK; have hK := hK'; clear hK'
                    go_simp
                    refine hK _ _ ?_
                    clear hK K
                    refine wpAny_ready (rs := [10]) (by kernel_rfl) (by simp) ?_
                    refine AllReady.cons rfl (fun K hK => ?_) ?_
                    · have hK' := hK; clear hK; have hK := hK'; clear hK'
                      go_simp
                      refine hK _ _ ?_
                      clear hK K
                      refine wpAny_done (by kernel_rfl) ?_ _
                      go_wp2_with (fail)
                      go_meet
                      exact ⟨_, rfl, hpNewD W1 _, (Below.refl W1.heap.size W1).drew.alloc (Nat.le_refl _) _⟩
                    exact AllReady.nil
                  exact AllReady.nil
                refine AllReady.cons rfl (fun K hK => ?_) ?_
                · have hK' := hK; clear hK; have hK := hK'; clear hK'
                  go_simp
                  refine hK _ _ ?_
                  clear hK K
                  refine wpAny_ready (rs := [8]) (by kernel_rfl) (by simp) ?_
                  refine AllReady.cons rfl (fun K hK => ?_) ?_
                  · have hK' := hK; clear hK; have hK := hK'; clear hK'
                    go_simp
                    refine hK _ _ ?_
                    clear hK K
                    refine wpAny_ready (rs := [10]) (by kernel_rfl) (by simp) ?_
                    refine AllReady.cons rfl (fun K hK => ?_) ?_
                    · have hK' := hK; clear hK; have hK := hK'; clear hK'
                      go_simp
                      refine hK _ _ ?_
                      clear hK K
                      refine wpAny_done (by kernel_rfl) ?_ _
                      go_wp2_with (fail)
                      go_meet
                      exact ⟨_, rfl, hpNewD W1 _, (Below.refl W1.heap.size W1).drew.alloc (Nat.le_refl _) _⟩
                    exact AllReady.nil
                  exact AllReady.nil
                exact AllReady.nil
              refine AllReady.cons rfl (fun K hK => ?_) ?_
              · have hK' := hK; clear hK; have hK := hK'; clear hK'
                go_simp
                refine hK _ _ ?_
                clear hK K
                refine wpAny_ready (rs := [1]) (by kernel_rfl) (by simp) ?_
                refine AllReady.cons rfl (fun K hK => ?_) ?_
                · have hK' := hK; clear hK; have hK := hK'; clear hK'
                  go_simp
                  refine hK _ _ ?_
                  clear hK K
                  refine wpAny_take (i := 7) (v := ?_) rfl (by kernel_rfl) (by kernel_rfl) (by kernel_rfl) (fun _ _ _ h => h) (Or.inl ⟨by rfl, by intro w; go_simp; first | done | with_reducible rfl⟩) ?_
                  simp only [List.getElem_toArray, List.getElem_cons_succ, List.getElem_cons_zero, Act.put, List.setIfInBounds_toArray, List.set_cons_zero, List.set_cons_succ]
                  refine wpAny_ready (rs := [8]) (by kernel_rfl) (by simp) ?_
                  refine AllReady.cons rfl (fun K hK => ?_) ?_
                  · have hK' := hK; clear hK; have hK := hK'; clear hK'
                    go_simp
                    refine hK _ _ ?_
                    clear hK K
                    refine wpAny_ready (rs := [10]) (by kernel_rfl) (by simp) ?_
                    refine AllReady.cons rfl (fun K hK => ?_) ?_
                    · have hK' := hK; clear hK; have hK := hK'; clear hK'
                      go_simp
                      refine hK _ _ ?_
                      clear hK K
                      refine wpAny_done (by kernel_rfl) ?_ _
                      go_wp2_with (fail)
                      go_meet
                      exact ⟨_, rfl, hpNewD W1 _, (Below.refl W1.heap.size W1).drew.alloc (Nat.le_refl _) _⟩
                    exact AllReady.nil
                  exact AllReady.nil
                exact AllReady.nil
              exact AllReady.nil
            refine AllReady.cons rfl (fun K hK => ?_) ?_
            · have hK' := hK; clear hK; have hK := hK'; clear hK'
              go_simp
              refine hK _ _ ?_
              clear hK K
              refine wpAny_ready (rs := [1, 6]) (by kernel_rfl) (by simp) ?_
              refine AllReady.cons rfl (fun K hK => ?_) ?_
              · have hK' := hK; clear hK; have hK := hK'; clear hK'
                go_simp
                refine hK _ _ ?_
                clear hK K
                refine wpAny_ready (rs := [6]) (by kernel_rfl) (by simp) ?_
                refine AllReady.cons rfl (fun K hK => ?_) ?_
                · have hK' := hK; clear hK; have hK := hK'; clear hK'
                  go_simp
                  refine hK _ _ ?_
                  clear hK K
                  refine wpAny_take (i := 7) (v := ?_) rfl (by kernel_rfl) (by kernel_rfl) (by kernel_rfl) (fun _ _ _ h => h) (Or.inl ⟨by rfl, by intro w; go_simp; first | done | with_reducible rfl⟩) ?_
                  simp only [List.getElem_toArray, List.getElem_cons_succ, List.getElem_cons_zero, Act.put, List.setIfInBounds_toArray, List.set_cons_zero, List.set_cons_succ]
                  refine wpAny_ready (rs := [8]) (by kernel_rfl) (by simp) ?_
                  refine AllReady.cons rfl (fun K hK => ?_) ?_
                  · have hK' := hK; clear hK; have hK := hK'; clear hK'
                    go_simp
                    refine hK _ _ ?_
                    clear hK K
                    refine wpAny_ready (rs := [10]) (by kernel_rfl) (by simp) ?_
                    refine AllReady.cons rfl (fun K hK => ?_) ?_
                    · have hK' := hK; clear hK; have hK := hK'; clear hK'
                      go_simp
                      refine hK _ _ ?_
                      clear hK K
                      refine wpAny_done (by kernel_rfl) ?_ _
                      go_wp2_with (fail)
                      go_meet
                      exact ⟨_, rfl, hpNewD W1 _, (Below.refl W1.heap.size W1).drew.alloc (Nat.le_refl _) _⟩
                    exact AllReady.nil
                  exact AllReady.nil
                exact AllReady.nil
              refine AllReady.cons rfl (fun K hK => ?_) ?_
              · have hK' := hK; clear hK; have hK := hK'; clear hK'
                go_simp
                refine hK _ _ ?_
                clear hK K
                refine wpAny_ready (rs := [1]) (by kernel_rfl) (by simp) ?_
                refine AllReady.cons rfl (fun K hK => ?_) ?_
                · have hK' := hK; clear hK; have hK := hK'; clear hK'
                  go_simp
                  refine hK _ _ ?_
                  clear hK K
                  refine wpAny_take (i := 7) (v := ?_) rfl (by kernel_rfl) (by kernel_rfl) (by kernel_rfl) (fun _ _ _ h => h) (Or.inl ⟨by rfl, by intro w; go_simp; first | done | with_reducible rfl⟩) ?_
                  simp only [List.getElem_toArray, List.getElem_cons_succ, List.getElem_cons_zero, Act.put, List.setIfInBounds_toArray, List.set_cons_zero, List.set_cons_succ]
                  refine wpAny_ready (rs := [8]) (by kernel_rfl) (by simp) ?_
                  refine AllReady.cons rfl (fun K hK => ?_) ?_
                  · have hK' := hK; clear hK; have hK := hK'; clear hK'
                    go_simp
                    refine hK _ _ ?_
                    clear hK K
                    refine wpAny_ready (rs := [10]) (by kernel_rfl) (by simp) ?_
                    refine AllReady.cons rfl (fun K hK => ?_) ?_
                    · have hK' := hK; clear hK; have hK := hK'; clear hK'
                      go_simp
                      refine hK _ _ ?_
                      clear hK K
                      refine wpAny_done (by kernel_rfl) ?_ _
                      go_wp2_with (fail)
                      go_meet
                      exact ⟨_, rfl, hpNewD W1 _, (Below.refl W1.heap.size W1).drew.alloc (Nat.le_refl _) _⟩
                    exact AllReady.nil
                  exact AllReady.nil
                exact AllReady.nil
              exact AllReady.nil
            exact AllReady.nil
        case rest =>
          obtain ⟨g, rfl, hg, hbx⟩ := hcut
          have s0 := blkC hg 0
          have s1 := blkC hg 1
          have lg := blkX hg
          simp only [List.getElem?_toArray, List.getElem?_cons_zero, List.getElem?_cons_succ] at s0 s1
          have hT2 := Lib.hid (hT.out.keep hbx)
          have e2' := f2.out wc hT2.out.a.bel
          replace hg := Lib.hid hg; replace hbx := Lib.hid hbx
          clear e0 e1 e2 sc0 sc1 gd hbW
          by_cases hkk : sk = key
          · have e1k : (sk.toList == key.toList) = true := by rw [str_eq]; exact decide_eq_true hkk
            by_cases hp' : p = 1
            · subst hp'
              have z1' := z1
              clear z1
              by_cases z1 : 0 < sd
              · have z2 : ¬ sd < 0 := by omega
                have hLu := Lib.hid (show rupL ss key (l.take (k + 1)) = rupL ss key (l.take k) ++ [sd] from by rw [hptu.out]; simp [hkk, z1])
                have hLd := Lib.hid (show rdnL ss key (l.take (k + 1)) = rdnL ss key (l.take k) from by rw [hptd.out]; simp [hkk, z1]; omega)
                obtain ⟨A3, c3, V3, hrun, hO3, hkeep⟩ := TwoN.push hT2.out hn' (sd) 1
                have hg3 := hkeep g _ _ _ hg.out (by decide)
                have r0 := blkC hg3 0
                have r1 := blkC hg3 1
                simp only [List.getElem?_toArray, List.getElem?_cons_zero, List.getElem?_cons_succ] at r0 r1
                replace hO3 := Lib.hid hO3; replace hkk := Lib.hid hkk; replace hg3 := Lib.hid hg3; replace hkeep := Lib.hid hkeep
                go_wp2_with (fail)
                exact ⟨⟨k + 1, n' + 1, m', A3, B', c3, d', by omega, by go_num, rfl, rfl, by rw [hLu.out, hLd.out]; exact hO3.out⟩, by simp [intOf]; omega⟩
              · have z2 : sd < 0 := by have := (stepsOK_at z1'.out hs.out).1; simp only at this; omega
                have hLu := Lib.hid (show rupL ss key (l.take (k + 1)) = rupL ss key (l.take k) from by rw [hptu.out]; simp [hkk, z1, z2])
                have hLd := Lib.hid (show rdnL ss key (l.take (k + 1)) = rdnL ss key (l.take k) ++ [-sd] from by rw [hptd.out]; simp [hkk, z1, z2])
                obtain ⟨A3, c3, V3, hrun, hO3, hkeep⟩ := TwoN.push hT2.out.swap hm' (-sd) 1
                replace hO3 := Lib.hid hO3; replace hkk := Lib.hid hkk; replace hkeep := Lib.hid hkeep
                go_wp2_with (fail)
                exact ⟨⟨k + 1, n', m' + 1, A', A3, c', c3, by omega, by go_num, rfl, rfl, by rw [hLu.out, hLd.out]; exact hO3.out.swap⟩, by simp [intOf]; omega⟩
            · have hpi : ((p : Int) != 1) = true := by simp; omega
              have hpx : ¬ (p : Int) = 1 := by omega
              have z1' := z1
              clear z1
              by_cases z1 : 0 < sd
              · have z2 : ¬ sd < 0 := by omega
                have hLu := Lib.hid (show rupL ss key (l.take (k + 1)) = rupL ss key (l.take k) ++ [-sd] from by rw [hptu.out]; simp [hkk, hp', z1])
                have hLd := Lib.hid (show rdnL ss key (l.take (k + 1)) = rdnL ss key (l.take k) from by rw [hptd.out]; simp [hkk, hp', z1]; omega)
                obtain ⟨A3, c3, V3, hrun, hO3, hkeep⟩ := TwoN.push hT2.out hn' (-sd) 1
                have hg3 := hkeep g _ _ _ hg.out (by decide)
                have r0 := blkC hg3 0
                have r1 := blkC hg3 1
                simp only [List.getElem?_toArray, List.getElem?_cons_zero, List.getElem?_cons_succ] at r0 r1
                replace hO3 := Lib.hid hO3; replace hkk := Lib.hid hkk; replace hg3 := Lib.hid hg3; replace hkeep := Lib.hid hkeep
                go_wp2_with (fail)
                exact ⟨⟨k + 1, n' + 1, m', A3, B', c3, d', by omega, by go_num, rfl, rfl, by rw [hLu.out, hLd.out]; exact hO3.out⟩, by simp [intOf]; omega⟩
              · have z2 : sd < 0 := by have := (stepsOK_at z1'.out hs.out).1; simp only at this; omega
                have hLu := Lib.hid (show rupL ss key (l.take (k + 1)) = rupL ss key (l.take k) from by rw [hptu.out]; simp [hkk, hp', z1, z2])
                have hLd := Lib.hid (show rdnL ss key (l.take (k + 1)) = rdnL ss key (l.take k) ++ [sd] from by rw [hptd.out]; simp [hkk, hp', z1, z2])
                obtain ⟨A3, c3, V3, hrun, hO3, hkeep⟩ := TwoN.push hT2.out.swap hm' (sd) 1
                replace hO3 := Lib.hid hO3; replace hkk := Lib.hid hkk; replace hkeep := Lib.hid hkeep
                go_wp2_with (fail)
                exact ⟨⟨k + 1, n', m' + 1, A', A3, c', c3, by omega, by go_num, rfl, rfl, by rw [hLu.out, hLd.out]; exact hO3.out.swap⟩, by simp [intOf]; omega⟩
          · have e1k : (sk.toList == key.toList) = false := by rw [str_eq]; exact decide_eq_false hkk
            have hLu := Lib.hid (show rupL ss key (l.take (k + 1)) = rupL ss key (l.take k) from by rw [hptu.out]; simp [hkk])
            have hLd := Lib.hid (show rdnL ss key (l.take (k + 1)) = rdnL ss key (l.take k) from by rw [hptd.out]; simp [hkk])
            replace hkk := Lib.hid hkk
            by_cases hpi : ((p : Int) != 1) = true
            · go_wp2_with (fail)
              exact ⟨⟨k + 1, n', m', A', B', c', d', by omega, by go_num, rfl, rfl, by rw [hLu.out, hLd.out]; exact hT2.out⟩, by simp [intOf]; omega⟩
            · replace hpi : ((p : Int) != 1) = false := by simpa using hpi
              go_wp2_with (fail)
              exact ⟨⟨k + 1, n', m', A', B', c', d', by omega, by go_num, rfl, rfl, by rw [hLu.out, hLd.out]; exact hT2.out⟩, by simp [intOf]; omega⟩
      · obtain rfl : k = m := by omega
        rw [List.take_of_length_le (by have := hl.out; omega)] at hT
        have hN1 := fun W (q : Below W1.heap.size W1 W) => rsumN_any A' n' c' _ W (hT.a.keep q).ns
        have hN2 := fun W (q : Below W1.heap.size W1 W) => rsumN_any B' m' d' _ W (hT.b.keep q).ns
        generalize (sumC (rupL ss key l)).1 = s1 at *
        generalize (sumC (rupL ss key l)).2 = e1 at *
        generalize (sumC (rdnL ss key l)).1 = s2 at *
        generalize (sumC (rdnL ss key l)).2 = e2 at *
        have hN3 := hN1 W1 (Below.refl _ _)
        have hN4 := hN2 W1 (Below.refl _ _)
        replace hT := Lib.hid hT; replace hb1 := Lib.hid hb1
        clear hN1 hN2
        by_cases q1 : e1 = 0
        · by_cases q2 : e2 = 0
          · have hf := Lib.hid (hgood.out q1 q2)
            have q1b : (e1 != 0) = false := by simp [q1]
            have q2b : (e2 != 0) = false := by simp [q2]
            replace q1 := Lib.hid q1; replace q2 := Lib.hid q2
            go_wp2_with (fail)
            refine hN3.mono ?_
            rintro e w5 ⟨rfl, rfl⟩
            go_wp2_with (fail)
            refine hN4.mono ?_
            rintro e w6 ⟨rfl, rfl⟩
            go_wp2_with (fail)
            go_ret3
            exact ⟨by rw [hf.out]; rfl, hb1.out⟩
          · have hf := Lib.hid (hover.out (fun q => q2 q.2))
            have q1b : (e1 != 0) = false := by simp [q1]
            have q2b : (e2 != 0) = true := by simp [q2]
            replace q1 := Lib.hid q1; replace q2 := Lib.hid q2
            go_wp2_with (fail)
            refine hN3.mono ?_
            rintro e w5 ⟨rfl, rfl⟩
            go_wp2_with (fail)
            refine hN4.mono ?_
            rintro e w6 ⟨rfl, rfl⟩
            go_wp2_with (fail)
            go_ret3
            exact ⟨by rw [hf.out]; rfl, hb1.out⟩
        · have hf := Lib.hid (hover.out (fun q => q1 q.1))
          have q1b : (e1 != 0) = true := by simp [q1]
          replace q1 := Lib.hid q1
          go_wp2_with (fail)
          refine hN3.mono ?_
          rintro e w5 ⟨rfl, rfl⟩
          go_wp2_with (fail)
          refine hN4.mono ?_
          rintro e w6 ⟨rfl, rfl⟩
          go_wp2_with (fail)
          go_ret3
          exact ⟨by rw [hf.out]; rfl, hb1.out⟩
  · have hf := Lib.hid (heldR_bad (key := key) hz)
    have hzb : (chkC nm r dl ss l != 0) = true := by simp [hz]
    generalize chkC nm r dl ss l = q at *
    replace h := Lib.hid h; replace hE := Lib.hid hE; replace hl := Lib.hid hl; replace hsl := Lib.hid hsl; replace hkeys := Lib.hid hkeys; replace kb := Lib.hid kb; replace hnew := Lib.hid hnew; replace hz := Lib.hid hz
    go_enter Tryd.func11, Tryd.ntmps11
    go_wp2_with (fail)
    refine hC.mono ?_
    rintro e w1 ⟨rfl, b1⟩
    go_wp2_with (fail)
    go_ret3
    exact ⟨by rw [hf.out]; rfl, kb.out.trans (b1.mono kb.out.size)⟩
end Go.Proofs.YthmkfbabacehnaaDoor
