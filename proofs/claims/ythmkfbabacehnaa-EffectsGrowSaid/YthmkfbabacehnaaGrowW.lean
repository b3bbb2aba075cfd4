/- EffectsGrow's walk. -/
import Derived.Test.YthmkfbabacehnaaGrowS
import Derived.Test.YthmkfbabacehnaaOpenU
import Derived.Test.YthmkfbabacehnaaLegalW
import Derived.Deep.CutBlock
import Derived.Deep.DeepCutAuto
namespace Go.Proofs.Ythmkfbabacehnaa
open Go.RowKit Go.Shelf
set_option linter.unusedSimpArgs false
set_option linter.unusedVariables false
set_option linter.unusedSectionVars false
set_option maxRecDepth 10000
attribute [local go_sem ↓] hideAppend
theorem cat2 {w W : World} {A B : Option Addr} {n c m d : Nat} {l r : List Ef} (h : OwnE w A n c l W) (h2 : ES W B m r) (hn : n ≤ 100000) (hm : m ≤ 100000) :
    ∃ A' c' W', (appSem #[22, 22] 22 #[.slice A n c, .slice B m d]).run Try.prog W = .ok (.slice A' (n + m) c') W' ∧ OwnE w A' (n + m) c' (l ++ r) W' ∧ W.grownBy W' (rowOf A) := by
  obtain ⟨A', c', w1, hrun, hcap, hown, hgr, hat⟩ := append_sl elemE encE_len encE_one (ty := 22) (d := d) h.own h.bel.size h2 (by omega) (by omega)
  exact ⟨A', c', w1, hrun, ⟨h.bel.trans (below_of_grown hgr h.bel.size fun g hg => (own_row h.own g hg).1), hown, by simp [h.len, h2.1], hcap⟩, hgr⟩
theorem emp_new {w W : World} (hb : Below w.heap.size w W) : OwnE w (some ⟨W.heap.size, 0, none⟩) 0 0 [] (W.alloc (.cells #[] 40)) := by
  have h0 : OwnE W (some ⟨W.heap.size, 0, none⟩) 0 0 [] (W.alloc (.cells #[] 40)) := ⟨(Below.refl W.heap.size W).alloc (Nat.le_refl _) _, ⟨rfl, .inr ⟨W.heap.size, 0, #[], rfl, Nat.le_refl _, hpNew W _, Nat.le_refl _, Nat.zero_le _, rfl, rfl⟩⟩, rfl, Nat.le_refl _⟩
  exact h0.re hb
/-- What EffectsGrow holds: the list, the effect that is added, in its box. -/
structure GH (w : World) (A : Option Addr) (n : Nat) (l : List Ef) (b : Nat) (x : Ef) (W : World) : Prop where
  bel : Below w.heap.size w W
  es : ES W A n l
  lt : b < W.heap.size
  c0 : W.cell? ⟨b, 0, none⟩ = some (.int .i64 x.1)
  c1 : W.cell? ⟨b, 1, none⟩ = some (.int .i64 x.2.1)
  c2 : W.cell? ⟨b, 2, none⟩ = some (.int .i64 x.2.2)
theorem GH.keep {w W W' : World} {A : Option Addr} {n : Nat} {l : List Ef} {b : Nat} {x : Ef} (h : GH w A n l b x W) (hb : Below W.heap.size W W') : GH w A n l b x W' :=
  ⟨h.bel.trans (hb.mono h.bel.size), SL.keep h.es hb, Nat.lt_of_lt_of_le h.lt hb.size, (hb.cell (p := ⟨b, 0, none⟩) h.lt).trans h.c0, (hb.cell (p := ⟨b, 1, none⟩) h.lt).trans h.c1, (hb.cell (p := ⟨b, 2, none⟩) h.lt).trans h.c2⟩
set_option maxHeartbeats 16000000 in
theorem grow_walk (s g st ph : Nat) (hs : s < 256) (hg : g < 65536) (hst : st < 256) (hph : ph < 256) (B : Option Addr) (m d : Nat) (w : World) (hB : BY w B m) : Calls Try.prog 5 #[.int .u8 s, .int .u16 g, .slice B m d, .int .u8 st, .int .u8 ph] w fun e w' => e = .returned (.bool true) ∧ Below w.heap.size w w' := by
  by_cases h40 : 40 < m
  · have h40i : (40 : Int) < m := by omega
    go_enter Try.func5, Try.ntmps5
    go_wp2_with (fail)
    refine (works_any w).mono ?_
    rintro e w1 ⟨rfl, b1⟩
    go_wp2_with (fail)
    go_ret
    exact ⟨rfl, b1⟩
  obtain ⟨k, hk⟩ : ∃ k : Nat, k = 1 + s % 8 := ⟨_, rfl⟩
  obtain ⟨id, hid⟩ : ∃ id : Nat, id = 1 + g % 9999 := ⟨_, rfl⟩
  have hk8 : 1 ≤ k ∧ k ≤ 8 := by omega
  have hid9 : (1 : Int) ≤ (id : Int) ∧ (id : Int) ≤ 9999 := by omega
  have hki : (1 : Int) + (s : Int) % 8 = (k : Int) := by omega
  have hidi : (1 : Int) + (g : Int) % 9999 = (id : Int) := by omega
  have h40i : ¬ (40 : Int) < m := by omega
  replace hk := Lib.hid hk; replace hid := Lib.hid hid; replace hB := Lib.hid hB
  go_enter Try.func5, Try.ntmps5
  go_upto_block 0 with (fail)
  go_cut [13] from 14 (fun v wx => ∃ p A c, v = .slice A (List.length p) c ∧ p ∈ pref k ∧ OwnE w A p.length c (p.map (resaga id)) wx)
  case first =>
    as_aux_lemma =>
      go_wp2_with (fail)
      go_loopw [13, 14] (fun v i wr => ∃ (j : Nat) (p : List Ef) (A : Option Addr) (c : Nat), j ≤ m ∧ i = .int .i64 j ∧ v = .slice A p.length c ∧ p ∈ pref k ∧ OwnE w A p.length c (p.map (resaga id)) wr) (fun _ i _ => m - (intOf i).toNat)
      case atStart => exact ⟨0, [], none, 0, by omega, rfl, rfl, pref_nil k, ⟨Below.refl _ _, own_none _ _, rfl, Nat.le_refl _⟩⟩
      case round =>
        revert wr
        intro W1 hrel
        obtain ⟨j, p, A, c, hj, rfl, rfl, hp, hO⟩ := hrel
        have hpl := pref_len hk8.2 hp
        obtain ⟨E1, E2, ⟨wa, wb, E3, E4⟩, E5, E6⟩ := grow_step hk8 hid9 hp
        generalize hn : p.length = n at *
        generalize hl : p.map (resaga id) = l at *
        have hN := next_any k A n c l W1 hO.es (by omega)
        rw [E1] at hN
        have hback : ∃ p A' c', Value.slice A n c = .slice A' (List.length p) c' ∧ p ∈ pref k ∧ OwnE w A' p.length c' (p.map (resaga id)) W1 := ⟨p, A, c, by rw [hn], hp, by rw [hn, hl]; exact hO⟩
        replace hback := Lib.hid hback
        replace hl := Lib.hid hl; replace hn := Lib.hid hn; replace hp := Lib.hid hp; replace hO := Lib.hid hO; replace E6 := Lib.hid E6; replace E4 := Lib.hid E4
        by_cases hlt : j < m
        · have hlti : (j : Int) < m := by omega
          go_wp2_with (fail)
          refine hN.mono ?_
          rintro e w2 ⟨A2, n2, c2, rfl, o2⟩
          have o2l := o2.len
          have hO2 := hO.out.keep o2.bel
          have hL := legal_any k A n c l w2 hO2.es (by omega)
          rw [E2] at hL
          replace o2 := Lib.hid o2; replace hO2 := Lib.hid hO2
          clear hN hO hback
          go_wp2_with (fail)
          refine hL.mono ?_
          rintro e w3 ⟨rfl, b3⟩
          have hO3 := hO2.out.keep b3
          have o3 := Lib.hid (o2.out.keep b3)
          have hW := whole_any k A n c l w3 hO3.es (by omega)
          rw [E3] at hW
          replace hO3 := Lib.hid hO3
          clear hL hO2 o2 b3
          go_wp2_with (fail)
          refine hW.mono ?_
          rintro e w4 ⟨rfl, b4⟩
          have hO4 := Lib.hid (hO3.out.keep b4)
          have o4 := Lib.hid (o3.out.keep b4)
          clear hW hO3 o3 b4
          have n2i : ¬ (2 : Int) < (n2 : Int) := by omega
          by_cases hz : n2 = 0
          · subst hz
            have hwb : wb = true := E4.out (List.eq_nil_of_length_eq_zero o2l)
            subst hwb
            go_wp2_with (fail)
            go_meet
            exact ⟨p, A, c, by rw [hn.out], hp.out, by rw [hn.out, hl.out]; exact hO4.out⟩
          · have hzi : ((n2 : Int) == 0) = false := beq_false_of_ne (by omega)
            obtain ⟨bb, ob, hBe, hbbl, hBc⟩ := hB.out (by omega)
            obtain ⟨z, hz256, hzc⟩ := hBc j hlt
            subst hBe
            have hzc4 := (hO4.out.bel.cell (p := ⟨bb, ob + j, none⟩) hbbl).trans hzc
            obtain ⟨q, hq⟩ : ∃ q : Nat, q = z % n2 := ⟨_, rfl⟩
            have hqi : (z : Int) % (n2 : Int) = (q : Int) := by rw [hq]; exact (Int.natCast_emod z n2).symm
            have hqlt : q < n2 := by rw [hq]; exact Nat.mod_lt _ (by omega)
            obtain ⟨b5, o5, ⟨y0, y1, y2⟩, hA2, hb5, hy, e0, e1, e2⟩ := ES.at_ o4.out.es hqlt
            subst hA2
            simp only at e0 e1 e2
            obtain ⟨q2, hq2m, hq2e⟩ := E6.out _ (List.mem_of_getElem? hy)
            have j0 : (0 : Int) ≤ j := by omega
            have q0 : (0 : Int) ≤ q := by omega
            have q1 : (q : Int) < n2 := by omega
            have hsz : (w4.alloc (.cells #[.int .i64 (id : Int), .int .i64 y1, .int .i64 y2] 40)).heap.size = w4.heap.size + 1 := by simp
            obtain ⟨A9, c9, w9, hrun9, o9⟩ := OwnE.push (hO4.out.keep ((Below.refl _ _).alloc (Nat.le_refl _) (.cells #[.int .i64 (id : Int), .int .i64 y1, .int .i64 y2] 40))) (by omega) ((id : Int), y1, y2) 1
            rw [hsz] at hrun9
            clear hsz
            have hq2l : q2.length = n + 1 := by have h := congrArg List.length hq2e; rw [List.length_map, List.length_append] at h; simpa [hO4.out.len] using h
            have hre : (resaga id (y0, y1, y2) : Ef) = ((id : Int), y1, y2) := rfl
            rw [hre] at hq2e
            rw [← hq2e, ← hq2l] at o9
            replace hq := Lib.hid hq; replace hy := Lib.hid hy; replace hq2e := Lib.hid hq2e; replace hq2l := Lib.hid hq2l; replace hq2m := Lib.hid hq2m; replace o9 := Lib.hid o9; replace hre := Lib.hid hre
            clear hBc
            go_wp2_with (fail)
            exact ⟨⟨j + 1, q2, A9, c9, by omega, by go_num, by rw [hq2l.out], hq2m.out, o9.out⟩, by simp [intOf]; omega⟩
        · obtain rfl : j = m := by omega
          go_wp2_with (fail)
          go_meet
          exact hback.out
  case rest =>
    as_aux_lemma =>
      obtain ⟨p, A, c, rfl, hp, hO⟩ := hcut
      have hpl := pref_len hk8.2 hp
      obtain ⟨E1, _, _, E5, _⟩ := grow_step hk8 hid9 hp
      obtain ⟨sx, hsx⟩ : ∃ sx : Nat, sx = st % k := ⟨_, rfl⟩
      have hsxk : sx < k := by rw [hsx]; exact Nat.mod_lt _ (by omega)
      have hsxi : (st : Int) % (k : Int) = (sx : Int) := by rw [hsx]; exact (Int.natCast_emod st k).symm
      obtain ⟨px, hpx⟩ : ∃ px : Int, px = 1 + (ph : Int) % 3 := ⟨_, rfl⟩
      have hpx3 : 1 ≤ px ∧ px ≤ 3 := by omega
      have hpxi : 1 + (ph : Int) % 3 = px := hpx.symm
      obtain ⟨⟨v1, F1, F2⟩, F3, ⟨v2, F4, F5⟩⟩ := add_step hk8 hid9 hp hsxk hpx3
      unfold mayL at F1 F2 F3 F5
      generalize hn : p.length = n at *
      generalize hl : p.map (resaga id) = l at *
      have hN := next_any k A n c l wc hO.es (by omega)
      rw [E1] at hN
      generalize (nextP (k : Int) l).1 = nl at *
      replace hl := Lib.hid hl; replace hn := Lib.hid hn; replace hp := Lib.hid hp; replace hO := Lib.hid hO; replace hsx := Lib.hid hsx; replace hpx := Lib.hid hpx
      replace F1 := Lib.hid F1; replace F2 := Lib.hid F2; replace F3 := Lib.hid F3; replace F4 := Lib.hid F4; replace F5 := Lib.hid F5
      clear E1
      go_wp2_with (fail)
      refine hN.mono ?_
      rintro e w5 ⟨A2, n2, c2, rfl, o2⟩
      have o2l := o2.len
      have hO5 := Lib.hid (hO.out.keep o2.bel)
      have hn22 : n2 ≤ 2 := by omega
      replace o2 := Lib.hid o2; replace o2l := Lib.hid o2l
      clear hN hO
      go_wp2_with (fail)
      have k6 := (Below.refl w5.heap.size w5).alloc (Nat.le_refl _) (.cells #[.int .i64 (id : Int), .int .i64 (sx : Int), .int .i64 px] 40)
      have hO6 := hO5.out.keep k6
      have hE6 := SL.keep o2.out.es k6
      have hbx : w5.heap.size < (w5.alloc (.cells #[.int .i64 (id : Int), .int .i64 (sx : Int), .int .i64 px] 40)).heap.size := by simp
      have x0 := blkC (hpNew w5 (.cells #[.int .i64 (id : Int), .int .i64 (sx : Int), .int .i64 px] 40)) 0
      have x1 := blkC (hpNew w5 (.cells #[.int .i64 (id : Int), .int .i64 (sx : Int), .int .i64 px] 40)) 1
      have x2 := blkC (hpNew w5 (.cells #[.int .i64 (id : Int), .int .i64 (sx : Int), .int .i64 px] 40)) 2
      simp only [List.getElem?_toArray, List.getElem?_cons_zero, List.getElem?_cons_succ] at x0 x1 x2
      clear k6 hO5 o2
      generalize w5.alloc (.cells #[.int .i64 (id : Int), .int .i64 (sx : Int), .int .i64 px] 40) = W6 at *
      generalize w5.heap.size = bx at *
      replace hO6 := Lib.hid hO6; replace hE6 := Lib.hid hE6; replace x0 := Lib.hid x0; replace x1 := Lib.hid x1; replace x2 := Lib.hid x2
      go_loopw [27, 28] (fun v i wr => ∃ j : Nat, j ≤ n2 ∧ i = .int .i64 j ∧ v = .bool ((nl.take j).any fun y => decide (resaga id y = ((id : Int), (sx : Int), px))) ∧ Below W6.heap.size W6 wr) (fun _ i _ => n2 - (intOf i).toNat)
      case atStart => exact ⟨0, by omega, rfl, rfl, Below.refl _ _⟩
      case round =>
        revert wr
        intro W7 hrel
        obtain ⟨j, hj, rfl, rfl, hb7⟩ := hrel
        have z0 := (hb7.cell (p := ⟨bx, 0, none⟩) hbx).trans x0.out
        have z1 := (hb7.cell (p := ⟨bx, 1, none⟩) hbx).trans x1.out
        have z2 := (hb7.cell (p := ⟨bx, 2, none⟩) hbx).trans x2.out
        have hbx7 := Nat.lt_of_lt_of_le hbx hb7.size
        by_cases hlt : j < n2
        · obtain ⟨b5, o5, ⟨y0, y1, y2⟩, hA2, hb5, hy, e0, e1, e2⟩ := ES.at_ (SL.keep hE6.out hb7) hlt
          subst hA2
          simp only at e0 e1 e2
          have j0 : (0 : Int) ≤ j := by omega
          have j1 : (j : Int) < n2 := by omega
          have hstep : ((nl.take (j + 1)).any fun y => decide (resaga id y = ((id : Int), (sx : Int), px))) = (((nl.take j).any fun y => decide (resaga id y = ((id : Int), (sx : Int), px))) || decide (y1 = (sx : Int) ∧ y2 = px)) := by
            rw [List.take_add_one, hy, List.any_append]
            simp [resaga]
          generalize ((nl.take j).any fun y => decide (resaga id y = ((id : Int), (sx : Int), px))) = bb at *
          replace hb7 := Lib.hid hb7; replace hy := Lib.hid hy
          have hbb7 := Lib.hid (hb7.out.alloc hb7.out.size (.cells #[.int .i64 (id : Int), .int .i64 y1, .int .i64 y2] 40))
          cases bb with
          | true =>
            rw [Bool.true_or] at hstep
            replace hstep := Lib.hid hstep
            go_wp2_with (fail)
            exact ⟨⟨j + 1, by omega, by go_num, by rw [hstep.out], hbb7.out⟩, by simp [intOf]; omega⟩
          | false =>
            rw [Bool.false_or] at hstep
            by_cases hy1 : y1 = (sx : Int)
            · subst hy1
              by_cases hy2 : y2 = px
              · subst hy2
                rw [decide_eq_true (⟨rfl, rfl⟩ : (sx : Int) = (sx : Int) ∧ y2 = y2)] at hstep
                replace hstep := Lib.hid hstep
                go_wp2_with (fail)
                exact ⟨⟨j + 1, by omega, by go_num, by rw [hstep.out], hbb7.out⟩, by simp [intOf]; omega⟩
              · rw [decide_eq_false (fun q => hy2 q.2)] at hstep
                replace hstep := Lib.hid hstep
                go_wp2_with (fail)
                exact ⟨⟨j + 1, by omega, by go_num, by rw [hstep.out], hbb7.out⟩, by simp [intOf]; omega⟩
            · rw [decide_eq_false (fun q => hy1 q.1)] at hstep
              replace hstep := Lib.hid hstep
              go_wp2_with (fail)
              exact ⟨⟨j + 1, by omega, by go_num, by rw [hstep.out], hbb7.out⟩, by simp [intOf]; omega⟩
        · obtain rfl : j = n2 := by omega
          have hall : nl.take j = nl := List.take_of_length_le (by have := o2l.out; omega)
          rw [hall]
          replace hall := Lib.hid hall
          generalize (nl.any fun y => decide (resaga id y = ((id : Int), (sx : Int), px))) = may at *
          have hO7 := Lib.hid (hO6.out.keep hb7)
          replace hb7 := Lib.hid hb7
          clear hO6 hE6 x0 x1 x2
          go_upto_region 27 with (fail)
          go_cut [30] from 31 (fun v wx => ∃ A' c', v = .slice A' (n + 1) c' ∧ OwnE W7 A' (n + 1) c' (l ++ [((id : Int), (sx : Int), px)]) wx)
          case first =>
            as_aux_lemma =>
              have r0 := Lib.hid z0; have r1 := Lib.hid z1; have r2 := Lib.hid z2; have hbxR := hbx7; clear z0 z1 z2
              refine wp_region_any (by kernel_rfl) ?_
              try (change wpAny _ _ _ _ _ _ _ (World.drew _))
              have kV := Lib.hid ((Below.refl W7.heap.size W7).drew)
              generalize W7.drew = V at *
              refine wpAny_take (i := 1) (v := ?_) rfl (by kernel_rfl) (by kernel_rfl) (by kernel_rfl) (fun _ _ _ h => h) (Or.inl ⟨by rfl, by intro w; go_simp; first | done | with_reducible rfl⟩) ?_
              simp only [List.getElem_toArray, List.getElem_cons_succ, List.getElem_cons_zero, Act.put, List.setIfInBounds_toArray, List.set_cons_zero, List.set_cons_succ]
              refine wpAny_ready (rs := [0, 3]) (by kernel_rfl) (by simp) ?_
              refine AllReady.cons rfl (fun K hK => ?_) ?_
              · have hK' := hK; clear hK; have hK := hK'; clear hK'
                go_simp
                refine hK _ _ ?_
                clear hK K
                have hE1 := Lib.hid (emp_new kV.out)
                have kV1 := Lib.hid (hE1.out.bel)
                have hea := Lib.hid (show V.heap.size < (V.alloc (.cells #[] 40)).heap.size from by simp)
                clear kV; have kV := kV1; clear kV1
                generalize V.heap.size = ea at *
                generalize V.alloc (.cells #[] 40) = V at *
                refine wpAny_ready (rs := [2, 3]) (by kernel_rfl) (by simp) ?_
                refine AllReady.cons rfl (fun K hK => ?_) ?_
                · have hK' := hK; clear hK; have hK := hK'; clear hK'
                  obtain ⟨A2', c2', V, hrun, hE2, hgr⟩ := cat2 (d := c) hE1.out (SL.keep hO7.out.es kV.out) (by omega) (by omega)
                  rw [Nat.zero_add] at hrun hE2
                  rw [List.nil_append] at hE2
                  go_simp
                  refine hK _ _ ?_
                  clear hK K
                  clear hrun
                  have kV1 := Lib.hid hE2.bel
                  replace hE2 := Lib.hid hE2
                  clear kV; have kV := kV1; clear kV1 hgr
                  refine wpAny_ready (rs := [3]) (by kernel_rfl) (by simp) ?_
                  refine AllReady.cons rfl (fun K hK => ?_) ?_
                  · have hK' := hK; clear hK; have hK := hK'; clear hK'
                    have q0 := (kV.out.cell (p := ⟨bx, 0, none⟩) hbxR).trans r0.out
                    have q1 := (kV.out.cell (p := ⟨bx, 1, none⟩) hbxR).trans r1.out
                    have q2 := (kV.out.cell (p := ⟨bx, 2, none⟩) hbxR).trans r2.out
                    go_simp
                    refine hK _ _ ?_
                    clear hK K
                    clear q0 q1 q2
                    refine wpAny_ready (rs := [4]) (by kernel_rfl) (by simp) ?_
                    refine AllReady.cons rfl (fun K hK => ?_) ?_
                    · have hK' := hK; clear hK; have hK := hK'; clear hK'
                      go_simp
                      refine hK _ _ ?_
                      clear hK K
                      have hB1 := Lib.hid (es_one V ((id : Int), (sx : Int), px))
                      have kV1 := Lib.hid (kV.out.alloc kV.out.size (.cells #[.int .i64 (id : Int), .int .i64 (sx : Int), .int .i64 px] 40))
                      have hE3 := Lib.hid (hE2.out.keep ((Below.refl V.heap.size V).alloc (Nat.le_refl _) (.cells #[.int .i64 (id : Int), .int .i64 (sx : Int), .int .i64 px] 40)))
                      clear hE2; have hE2 := hE3; clear hE3
                      have hbB := Lib.hid (show V.heap.size < (V.alloc (.cells #[.int .i64 (id : Int), .int .i64 (sx : Int), .int .i64 px] 40)).heap.size from by simp)
                      clear kV; have kV := kV1; clear kV1
                      generalize V.heap.size = bB at *
                      generalize V.alloc (.cells #[.int .i64 (id : Int), .int .i64 (sx : Int), .int .i64 px] 40) = V at *
                      refine wpAny_ready (rs := [5]) (by kernel_rfl) (by simp) ?_
                      refine AllReady.cons rfl (fun K hK => ?_) ?_
                      · have hK' := hK; clear hK; have hK := hK'; clear hK'
                        obtain ⟨A5, c5, V, hrun, hE5, hgr⟩ := cat2 (d := 1) hE2.out hB1.out (by omega) (by omega)
                        go_simp
                        refine hK _ _ ?_
                        clear hK K
                        replace hE5 := Lib.hid hE5
                        clear hgr hrun
                        refine wpAny_take (i := 6) (v := ?_) rfl (by kernel_rfl) (by kernel_rfl) (by kernel_rfl) (fun _ _ _ h => h) (Or.inl ⟨by rfl, by intro w; go_simp; first | done | with_reducible rfl⟩) ?_
                        simp only [List.getElem_toArray, List.getElem_cons_succ, List.getElem_cons_zero, Act.put, List.setIfInBounds_toArray, List.set_cons_zero, List.set_cons_succ]
                        refine wpAny_done (by kernel_rfl) ?_ _
                        go_wp2_with (fail)
                        go_meet
                        exact ⟨A5, c5, rfl, hE5.out⟩
                      exact AllReady.nil
                    exact AllReady.nil
                  exact AllReady.nil
                refine AllReady.cons rfl (fun K hK => ?_) ?_
                · have hK' := hK; clear hK; have hK := hK'; clear hK'
                  have q0 := (kV.out.cell (p := ⟨bx, 0, none⟩) hbxR).trans r0.out
                  have q1 := (kV.out.cell (p := ⟨bx, 1, none⟩) hbxR).trans r1.out
                  have q2 := (kV.out.cell (p := ⟨bx, 2, none⟩) hbxR).trans r2.out
                  go_simp
                  refine hK _ _ ?_
                  clear hK K
                  clear q0 q1 q2
                  refine wpAny_ready (rs := [2, 4]) (by kernel_rfl) (by simp) ?_
                  refine AllReady.cons rfl (fun K hK => ?_) ?_
                  · have hK' := hK; clear hK; have hK := hK'; clear hK'
                    obtain ⟨A2', c2', V, hrun, hE2, hgr⟩ := cat2 (d := c) hE1.out (SL.keep hO7.out.es kV.out) (by omega) (by omega)
                    rw [Nat.zero_add] at hrun hE2
                    rw [List.nil_append] at hE2
                    go_simp
                    refine hK _ _ ?_
                    clear hK K
                    clear hrun
                    have kV1 := Lib.hid hE2.bel
                    replace hE2 := Lib.hid hE2
                    clear kV; have kV := kV1; clear kV1 hgr
                    refine wpAny_ready (rs := [4]) (by kernel_rfl) (by simp) ?_
                    refine AllReady.cons rfl (fun K hK => ?_) ?_
                    · have hK' := hK; clear hK; have hK := hK'; clear hK'
                      go_simp
                      refine hK _ _ ?_
                      clear hK K
                      have hB1 := Lib.hid (es_one V ((id : Int), (sx : Int), px))
                      have kV1 := Lib.hid (kV.out.alloc kV.out.size (.cells #[.int .i64 (id : Int), .int .i64 (sx : Int), .int .i64 px] 40))
                      have hE3 := Lib.hid (hE2.out.keep ((Below.refl V.heap.size V).alloc (Nat.le_refl _) (.cells #[.int .i64 (id : Int), .int .i64 (sx : Int), .int .i64 px] 40)))
                      clear hE2; have hE2 := hE3; clear hE3
                      have hbB := Lib.hid (show V.heap.size < (V.alloc (.cells #[.int .i64 (id : Int), .int .i64 (sx : Int), .int .i64 px] 40)).heap.size from by simp)
                      clear kV; have kV := kV1; clear kV1
                      generalize V.heap.size = bB at *
                      generalize V.alloc (.cells #[.int .i64 (id : Int), .int .i64 (sx : Int), .int .i64 px] 40) = V at *
                      refine wpAny_ready (rs := [5]) (by kernel_rfl) (by simp) ?_
                      refine AllReady.cons rfl (fun K hK => ?_) ?_
                      · have hK' := hK; clear hK; have hK := hK'; clear hK'
                        obtain ⟨A5, c5, V, hrun, hE5, hgr⟩ := cat2 (d := 1) hE2.out hB1.out (by omega) (by omega)
                        go_simp
                        refine hK _ _ ?_
                        clear hK K
                        replace hE5 := Lib.hid hE5
                        clear hgr hrun
                        refine wpAny_take (i := 6) (v := ?_) rfl (by kernel_rfl) (by kernel_rfl) (by kernel_rfl) (fun _ _ _ h => h) (Or.inl ⟨by rfl, by intro w; go_simp; first | done | with_reducible rfl⟩) ?_
                        simp only [List.getElem_toArray, List.getElem_cons_succ, List.getElem_cons_zero, Act.put, List.setIfInBounds_toArray, List.set_cons_zero, List.set_cons_succ]
                        refine wpAny_done (by kernel_rfl) ?_ _
                        go_wp2_with (fail)
                        go_meet
                        exact ⟨A5, c5, rfl, hE5.out⟩
                      exact AllReady.nil
                    exact AllReady.nil
                  refine AllReady.cons rfl (fun K hK => ?_) ?_
                  · have hK' := hK; clear hK; have hK := hK'; clear hK'
                    go_simp
                    refine hK _ _ ?_
                    clear hK K
                    have hB1 := Lib.hid (es_one V ((id : Int), (sx : Int), px))
                    have kV1 := Lib.hid (kV.out.alloc kV.out.size (.cells #[.int .i64 (id : Int), .int .i64 (sx : Int), .int .i64 px] 40))
                    have hE3 := Lib.hid (hE1.out.keep ((Below.refl V.heap.size V).alloc (Nat.le_refl _) (.cells #[.int .i64 (id : Int), .int .i64 (sx : Int), .int .i64 px] 40)))
                    have hne := Lib.hid (show ea ≠ V.heap.size from by have := hea.out; omega)
                    clear hE1; have hE1 := hE3; clear hE3
                    have hbB := Lib.hid (show V.heap.size < (V.alloc (.cells #[.int .i64 (id : Int), .int .i64 (sx : Int), .int .i64 px] 40)).heap.size from by simp)
                    clear kV; have kV := kV1; clear kV1
                    generalize V.heap.size = bB at *
                    generalize V.alloc (.cells #[.int .i64 (id : Int), .int .i64 (sx : Int), .int .i64 px] 40) = V at *
                    refine wpAny_ready (rs := [2]) (by kernel_rfl) (by simp) ?_
                    refine AllReady.cons rfl (fun K hK => ?_) ?_
                    · have hK' := hK; clear hK; have hK := hK'; clear hK'
                      obtain ⟨A2', c2', V, hrun, hE2, hgr⟩ := cat2 (d := c) hE1.out (SL.keep hO7.out.es kV.out) (by omega) (by omega)
                      rw [Nat.zero_add] at hrun hE2
                      rw [List.nil_append] at hE2
                      go_simp
                      refine hK _ _ ?_
                      clear hK K
                      clear hrun
                      have kV1 := Lib.hid hE2.bel
                      have hB2 := Lib.hid (SL.grown hB1.out hgr (fun g e1 e2 => hne.out (by simp only [rowOf, Option.some.injEq] at e1 e2; omega)))
                      clear hB1; have hB1 := hB2; clear hB2
                      replace hE2 := Lib.hid hE2
                      clear kV; have kV := kV1; clear kV1 hgr
                      refine wpAny_ready (rs := [5]) (by kernel_rfl) (by simp) ?_
                      refine AllReady.cons rfl (fun K hK => ?_) ?_
                      · have hK' := hK; clear hK; have hK := hK'; clear hK'
                        obtain ⟨A5, c5, V, hrun, hE5, hgr⟩ := cat2 (d := 1) hE2.out hB1.out (by omega) (by omega)
                        go_simp
                        refine hK _ _ ?_
                        clear hK K
                        replace hE5 := Lib.hid hE5
                        clear hgr hrun
                        refine wpAny_take (i := 6) (v := ?_) rfl (by kernel_rfl) (by kernel_rfl) (by kernel_rfl) (fun _ _ _ h => h) (Or.inl ⟨by rfl, by intro w; go_simp; first | done | with_reducible rfl⟩) ?_
                        simp only [List.getElem_toArray, List.getElem_cons_succ, List.getElem_cons_zero, Act.put, List.setIfInBounds_toArray, List.set_cons_zero, List.set_cons_succ]
                        refine wpAny_done (by kernel_rfl) ?_ _
                        go_wp2_with (fail)
                        go_meet
                        exact ⟨A5, c5, rfl, hE5.out⟩
                      exact AllReady.nil
                    exact AllReady.nil
                  exact AllReady.nil
                exact AllReady.nil
              refine AllReady.cons rfl (fun K hK => ?_) ?_
              · have hK' := hK; clear hK; have hK := hK'; clear hK'
                have q0 := (kV.out.cell (p := ⟨bx, 0, none⟩) hbxR).trans r0.out
                have q1 := (kV.out.cell (p := ⟨bx, 1, none⟩) hbxR).trans r1.out
                have q2 := (kV.out.cell (p := ⟨bx, 2, none⟩) hbxR).trans r2.out
                go_simp
                refine hK _ _ ?_
                clear hK K
                clear q0 q1 q2
                refine wpAny_ready (rs := [0, 4]) (by kernel_rfl) (by simp) ?_
                refine AllReady.cons rfl (fun K hK => ?_) ?_
                · have hK' := hK; clear hK; have hK := hK'; clear hK'
                  go_simp
                  refine hK _ _ ?_
                  clear hK K
                  have hE1 := Lib.hid (emp_new kV.out)
                  have kV1 := Lib.hid (hE1.out.bel)
                  have hea := Lib.hid (show V.heap.size < (V.alloc (.cells #[] 40)).heap.size from by simp)
                  clear kV; have kV := kV1; clear kV1
                  generalize V.heap.size = ea at *
                  generalize V.alloc (.cells #[] 40) = V at *
                  refine wpAny_ready (rs := [2, 4]) (by kernel_rfl) (by simp) ?_
                  refine AllReady.cons rfl (fun K hK => ?_) ?_
                  · have hK' := hK; clear hK; have hK := hK'; clear hK'
                    obtain ⟨A2', c2', V, hrun, hE2, hgr⟩ := cat2 (d := c) hE1.out (SL.keep hO7.out.es kV.out) (by omega) (by omega)
                    rw [Nat.zero_add] at hrun hE2
                    rw [List.nil_append] at hE2
                    go_simp
                    refine hK _ _ ?_
                    clear hK K
                    clear hrun
                    have kV1 := Lib.hid hE2.bel
                    replace hE2 := Lib.hid hE2
                    clear kV; have kV := kV1; clear kV1 hgr
                    refine wpAny_ready (rs := [4]) (by kernel_rfl) (by simp) ?_
                    refine AllReady.cons rfl (fun K hK => ?_) ?_
                    · have hK' := hK; clear hK; have hK := hK'; clear hK'
                      go_simp
                      refine hK _ _ ?_
                      clear hK K
                      have hB1 := Lib.hid (es_one V ((id : Int), (sx : Int), px))
                      have kV1 := Lib.hid (kV.out.alloc kV.out.size (.cells #[.int .i64 (id : Int), .int .i64 (sx : Int), .int .i64 px] 40))
                      have hE3 := Lib.hid (hE2.out.keep ((Below.refl V.heap.size V).alloc (Nat.le_refl _) (.cells #[.int .i64 (id : Int), .int .i64 (sx : Int), .int .i64 px] 40)))
                      clear hE2; have hE2 := hE3; clear hE3
                      have hbB := Lib.hid (show V.heap.size < (V.alloc (.cells #[.int .i64 (id : Int), .int .i64 (sx : Int), .int .i64 px] 40)).heap.size from by simp)
                      clear kV; have kV := kV1; clear kV1
                      generalize V.heap.size = bB at *
                      generalize V.alloc (.cells #[.int .i64 (id : Int), .int .i64 (sx : Int), .int .i64 px] 40) = V at *
                      refine wpAny_ready (rs := [5]) (by kernel_rfl) (by simp) ?_
                      refine AllReady.cons rfl (fun K hK => ?_) ?_
                      · have hK' := hK; clear hK; have hK := hK'; clear hK'
                        obtain ⟨A5, c5, V, hrun, hE5, hgr⟩ := cat2 (d := 1) hE2.out hB1.out (by omega) (by omega)
                        go_simp
                        refine hK _ _ ?_
                        clear hK K
                        replace hE5 := Lib.hid hE5
                        clear hgr hrun
                        refine wpAny_take (i := 6) (v := ?_) rfl (by kernel_rfl) (by kernel_rfl) (by kernel_rfl) (fun _ _ _ h => h) (Or.inl ⟨by rfl, by intro w; go_simp; first | done | with_reducible rfl⟩) ?_
                        simp only [List.getElem_toArray, List.getElem_cons_succ, List.getElem_cons_zero, Act.put, List.setIfInBounds_toArray, List.set_cons_zero, List.set_cons_succ]
                        refine wpAny_done (by kernel_rfl) ?_ _
                        go_wp2_with (fail)
                        go_meet
                        exact ⟨A5, c5, rfl, hE5.out⟩
                      exact AllReady.nil
                    exact AllReady.nil
                  refine AllReady.cons rfl (fun K hK => ?_) ?_
                  · have hK' := hK; clear hK; have hK := hK'; clear hK'
                    go_simp
                    refine hK _ _ ?_
                    clear hK K
                    have hB1 := Lib.hid (es_one V ((id : Int), (sx : Int), px))
                    have kV1 := Lib.hid (kV.out.alloc kV.out.size (.cells #[.int .i64 (id : Int), .int .i64 (sx : Int), .int .i64 px] 40))
                    have hE3 := Lib.hid (hE1.out.keep ((Below.refl V.heap.size V).alloc (Nat.le_refl _) (.cells #[.int .i64 (id : Int), .int .i64 (sx : Int), .int .i64 px] 40)))
                    have hne := Lib.hid (show ea ≠ V.heap.size from by have := hea.out; omega)
                    clear hE1; have hE1 := hE3; clear hE3
                    have hbB := Lib.hid (show V.heap.size < (V.alloc (.cells #[.int .i64 (id : Int), .int .i64 (sx : Int), .int .i64 px] 40)).heap.size from by simp)
                    clear kV; have kV := kV1; clear kV1
                    generalize V.heap.size = bB at *
                    generalize V.alloc (.cells #[.int .i64 (id : Int), .int .i64 (sx : Int), .int .i64 px] 40) = V at *
                    refine wpAny_ready (rs := [2]) (by kernel_rfl) (by simp) ?_
                    refine AllReady.cons rfl (fun K hK => ?_) ?_
                    · have hK' := hK; clear hK; have hK := hK'; clear hK'
                      obtain ⟨A2', c2', V, hrun, hE2, hgr⟩ := cat2 (d := c) hE1.out (SL.keep hO7.out.es kV.out) (by omega) (by omega)
                      rw [Nat.zero_add] at hrun hE2
                      rw [List.nil_append] at hE2
                      go_simp
                      refine hK _ _ ?_
                      clear hK K
                      clear hrun
                      have kV1 := Lib.hid hE2.bel
                      have hB2 := Lib.hid (SL.grown hB1.out hgr (fun g e1 e2 => hne.out (by simp only [rowOf, Option.some.injEq] at e1 e2; omega)))
                      clear hB1; have hB1 := hB2; clear hB2
                      replace hE2 := Lib.hid hE2
                      clear kV; have kV := kV1; clear kV1 hgr
                      refine wpAny_ready (rs := [5]) (by kernel_rfl) (by simp) ?_
                      refine AllReady.cons rfl (fun K hK => ?_) ?_
                      · have hK' := hK; clear hK; have hK := hK'; clear hK'
                        obtain ⟨A5, c5, V, hrun, hE5, hgr⟩ := cat2 (d := 1) hE2.out hB1.out (by omega) (by omega)
                        go_simp
                        refine hK _ _ ?_
                        clear hK K
                        replace hE5 := Lib.hid hE5
                        clear hgr hrun
                        refine wpAny_take (i := 6) (v := ?_) rfl (by kernel_rfl) (by kernel_rfl) (by kernel_rfl) (fun _ _ _ h => h) (Or.inl ⟨by rfl, by intro w; go_simp; first | done | with_reducible rfl⟩) ?_
                        simp only [List.getElem_toArray, List.getElem_cons_succ, List.getElem_cons_zero, Act.put, List.setIfInBounds_toArray, List.set_cons_zero, List.set_cons_succ]
                        refine wpAny_done (by kernel_rfl) ?_ _
                        go_wp2_with (fail)
                        go_meet
                        exact ⟨A5, c5, rfl, hE5.out⟩
                      exact AllReady.nil
                    exact AllReady.nil
                  exact AllReady.nil
                refine AllReady.cons rfl (fun K hK => ?_) ?_
                · have hK' := hK; clear hK; have hK := hK'; clear hK'
                  go_simp
                  refine hK _ _ ?_
                  clear hK K
                  have hB1 := Lib.hid (es_one V ((id : Int), (sx : Int), px))
                  have kV1 := Lib.hid (kV.out.alloc kV.out.size (.cells #[.int .i64 (id : Int), .int .i64 (sx : Int), .int .i64 px] 40))
                  have hbB := Lib.hid (show V.heap.size < (V.alloc (.cells #[.int .i64 (id : Int), .int .i64 (sx : Int), .int .i64 px] 40)).heap.size from by simp)
                  clear kV; have kV := kV1; clear kV1
                  generalize V.heap.size = bB at *
                  generalize V.alloc (.cells #[.int .i64 (id : Int), .int .i64 (sx : Int), .int .i64 px] 40) = V at *
                  refine wpAny_ready (rs := [0]) (by kernel_rfl) (by simp) ?_
                  refine AllReady.cons rfl (fun K hK => ?_) ?_
                  · have hK' := hK; clear hK; have hK := hK'; clear hK'
                    go_simp
                    refine hK _ _ ?_
                    clear hK K
                    have hE1 := Lib.hid (emp_new kV.out)
                    have kV1 := Lib.hid (hE1.out.bel)
                    have hB2 := Lib.hid (SL.keep hB1.out ((Below.refl V.heap.size V).alloc (Nat.le_refl _) (.cells #[] 40)))
                    have hne := Lib.hid (show V.heap.size ≠ bB from by have := hbB.out; omega)
                    clear hB1; have hB1 := hB2; clear hB2
                    have hea := Lib.hid (show V.heap.size < (V.alloc (.cells #[] 40)).heap.size from by simp)
                    clear kV; have kV := kV1; clear kV1
                    generalize V.heap.size = ea at *
                    generalize V.alloc (.cells #[] 40) = V at *
                    refine wpAny_ready (rs := [2]) (by kernel_rfl) (by simp) ?_
                    refine AllReady.cons rfl (fun K hK => ?_) ?_
                    · have hK' := hK; clear hK; have hK := hK'; clear hK'
                      obtain ⟨A2', c2', V, hrun, hE2, hgr⟩ := cat2 (d := c) hE1.out (SL.keep hO7.out.es kV.out) (by omega) (by omega)
                      rw [Nat.zero_add] at hrun hE2
                      rw [List.nil_append] at hE2
                      go_simp
                      refine hK _ _ ?_
                      clear hK K
                      clear hrun
                      have kV1 := Lib.hid hE2.bel
                      have hB2 := Lib.hid (SL.grown hB1.out hgr (fun g e1 e2 => hne.out (by simp only [rowOf, Option.some.injEq] at e1 e2; omega)))
                      clear hB1; have hB1 := hB2; clear hB2
                      replace hE2 := Lib.hid hE2
                      clear kV; have kV := kV1; clear kV1 hgr
                      refine wpAny_ready (rs := [5]) (by kernel_rfl) (by simp) ?_
                      refine AllReady.cons rfl (fun K hK => ?_) ?_
                      · have hK' := hK; clear hK; have hK := hK'; clear hK'
                        obtain ⟨A5, c5, V, hrun, hE5, hgr⟩ := cat2 (d := 1) hE2.out hB1.out (by omega) (by omega)
                        go_simp
                        refine hK _ _ ?_
                        clear hK K
                        replace hE5 := Lib.hid hE5
                        clear hgr hrun
                        refine wpAny_take (i := 6) (v := ?_) rfl (by kernel_rfl) (by kernel_rfl) (by kernel_rfl) (fun _ _ _ h => h) (Or.inl ⟨by rfl, by intro w; go_simp; first | done | with_reducible rfl⟩) ?_
                        simp only [List.getElem_toArray, List.getElem_cons_succ, List.getElem_cons_zero, Act.put, List.setIfInBounds_toArray, List.set_cons_zero, List.set_cons_succ]
                        refine wpAny_done (by kernel_rfl) ?_ _
                        go_wp2_with (fail)
                        go_meet
                        exact ⟨A5, c5, rfl, hE5.out⟩
                      exact AllReady.nil
                    exact AllReady.nil
                  exact AllReady.nil
                exact AllReady.nil
              exact AllReady.nil
          case rest =>
            obtain ⟨A3, c3, rfl, hE3⟩ := hcut
            have y0 := (hE3.bel.cell (p := ⟨bx, 0, none⟩) hbx7).trans z0
            have y1 := (hE3.bel.cell (p := ⟨bx, 1, none⟩) hbx7).trans z1
            have y2 := (hE3.bel.cell (p := ⟨bx, 2, none⟩) hbx7).trans z2
            have hbxc := Nat.lt_of_lt_of_le hbx7 hE3.bel.size
            have hE3' := hE3.re hO7.out.bel
            have hL := legal_any k A3 (n + 1) c3 _ wc hE3.es (by omega)
            rw [F1.out] at hL
            replace hE3' := Lib.hid hE3'; replace y0 := Lib.hid y0; replace y1 := Lib.hid y1; replace y2 := Lib.hid y2
            clear hE3 z0 z1 z2 hO7 hb7 hbx7 hbx hall hlt o2l
            cases may with
            | true =>
              replace F2 := Lib.hid F2; replace F5 := Lib.hid F5
              go_wp2_with (fail)
              refine hL.mono ?_
              rintro e w8 ⟨rfl, b8⟩
              have hE8 := hE3'.out.keep b8
              have hN := next_any k A3 (n + 1) c3 _ w8 hE8.es (by omega)
              rw [F3.out] at hN
              try simp only [if_pos, if_true, if_false, Bool.false_eq_true] at hN
              have y0' := (b8.cell (p := ⟨bx, 0, none⟩) hbxc).trans y0.out
              have y1' := (b8.cell (p := ⟨bx, 1, none⟩) hbxc).trans y1.out
              have y2' := (b8.cell (p := ⟨bx, 2, none⟩) hbxc).trans y2.out
              have hbx8 := Nat.lt_of_lt_of_le hbxc b8.size
              replace hE8 := Lib.hid hE8; replace y0' := Lib.hid y0'; replace y1' := Lib.hid y1'; replace y2' := Lib.hid y2'
              clear hL hE3' b8 y0 y1 y2
              go_wp2_with (fail)
              refine hN.mono ?_
              rintro e w9 ⟨A4, n4, c4, rfl, o9⟩
              have hE9 := Lib.hid (hE8.out.keep o9.bel)
              have r0 := Lib.hid ((o9.bel.cell (p := ⟨bx, 0, none⟩) hbx8).trans y0'.out)
              have r1 := Lib.hid ((o9.bel.cell (p := ⟨bx, 1, none⟩) hbx8).trans y1'.out)
              have r2 := Lib.hid ((o9.bel.cell (p := ⟨bx, 2, none⟩) hbx8).trans y2'.out)
              have hbxR := Nat.lt_of_lt_of_le hbx8 o9.bel.size
              clear hN hE8 o9 y0' y1' y2'
              go_upto_region 32 with (fail)
              go_cut [36, 32, 37] from 38 (fun a b c wx => a = .bool false ∧ b = .int .i64 v2 ∧ c = .int .i64 0 ∧ Below w.heap.size w wx)
              case first =>
                as_aux_lemma =>
                  refine wp_region_any (by kernel_rfl) ?_
                  try (change wpAny _ _ _ _ _ _ _ (World.drew _))
                  have kV := Lib.hid ((Below.refl w9.heap.size w9).drew)
                  generalize w9.drew = V at *
                  refine wpAny_take (i := 0) (v := ?_) rfl (by kernel_rfl) (by kernel_rfl) (by kernel_rfl) (fun _ _ _ h => h) (Or.inl ⟨by rfl, by intro w; go_simp; first | done | with_reducible rfl⟩) ?_
                  simp only [List.getElem_toArray, List.getElem_cons_succ, List.getElem_cons_zero, Act.put, List.setIfInBounds_toArray, List.set_cons_zero, List.set_cons_succ]
                  refine wpAny_take (i := 2) (v := ?_) rfl (by kernel_rfl) (by kernel_rfl) (by kernel_rfl) (fun _ _ _ h => h) (Or.inl ⟨by rfl, by intro w; go_simp; first | done | with_reducible rfl⟩) ?_
                  simp only [List.getElem_toArray, List.getElem_cons_succ, List.getElem_cons_zero, Act.put, List.setIfInBounds_toArray, List.set_cons_zero, List.set_cons_succ]
                  refine wpAny_ready (rs := [1, 4]) (by kernel_rfl) (by simp) ?_
                  refine AllReady.cons rfl (fun K hK => ?_) ?_
                  · have hK' := hK; clear hK; have hK := hK'; clear hK'
                    go_simp
                    refine hK _ _ ?_
                    clear hK K
                    have hE1 := Lib.hid (emp_new kV.out)
                    have kV1 := Lib.hid (hE1.out.bel)
                    have hea := Lib.hid (show V.heap.size < (V.alloc (.cells #[] 40)).heap.size from by simp)
                    clear kV; have kV := kV1; clear kV1
                    generalize V.heap.size = ea at *
                    generalize V.alloc (.cells #[] 40) = V at *
                    refine wpAny_ready (rs := [3, 4]) (by kernel_rfl) (by simp) ?_
                    refine AllReady.cons rfl (fun K hK => ?_) ?_
                    · have hK' := hK; clear hK; have hK := hK'; clear hK'
                      obtain ⟨A2', c2', V, hrun, hE2, hgr⟩ := cat2 (d := c3) hE1.out (SL.keep hE9.out.es kV.out) (by omega) (by omega)
                      rw [Nat.zero_add] at hrun hE2
                      rw [List.nil_append] at hE2
                      go_simp
                      refine hK _ _ ?_
                      clear hK K
                      clear hrun
                      have kV1 := Lib.hid hE2.bel
                      replace hE2 := Lib.hid hE2
                      clear kV; have kV := kV1; clear kV1 hgr
                      refine wpAny_ready (rs := [4]) (by kernel_rfl) (by simp) ?_
                      refine AllReady.cons rfl (fun K hK => ?_) ?_
                      · have hK' := hK; clear hK; have hK := hK'; clear hK'
                        have q0 := (kV.out.cell (p := ⟨bx, 0, none⟩) hbxR).trans r0.out
                        have q1 := (kV.out.cell (p := ⟨bx, 1, none⟩) hbxR).trans r1.out
                        have q2 := (kV.out.cell (p := ⟨bx, 2, none⟩) hbxR).trans r2.out
                        go_simp
                        refine hK _ _ ?_
                        clear hK K
                        clear q0 q1 q2
                        refine wpAny_ready (rs := [5]) (by kernel_rfl) (by simp) ?_
                        refine AllReady.cons rfl (fun K hK => ?_) ?_
                        · have hK' := hK; clear hK; have hK := hK'; clear hK'
                          go_simp
                          refine hK _ _ ?_
                          clear hK K
                          have hB1 := Lib.hid (es_one V ((id : Int), (sx : Int), px))
                          have kV1 := Lib.hid (kV.out.alloc kV.out.size (.cells #[.int .i64 (id : Int), .int .i64 (sx : Int), .int .i64 px] 40))
                          have hE3 := Lib.hid (hE2.out.keep ((Below.refl V.heap.size V).alloc (Nat.le_refl _) (.cells #[.int .i64 (id : Int), .int .i64 (sx : Int), .int .i64 px] 40)))
                          clear hE2; have hE2 := hE3; clear hE3
                          have hbB := Lib.hid (show V.heap.size < (V.alloc (.cells #[.int .i64 (id : Int), .int .i64 (sx : Int), .int .i64 px] 40)).heap.size from by simp)
                          clear kV; have kV := kV1; clear kV1
                          generalize V.heap.size = bB at *
                          generalize V.alloc (.cells #[.int .i64 (id : Int), .int .i64 (sx : Int), .int .i64 px] 40) = V at *
                          refine wpAny_ready (rs := [6]) (by kernel_rfl) (by simp) ?_
                          refine AllReady.cons rfl (fun K hK => ?_) ?_
                          · have hK' := hK; clear hK; have hK := hK'; clear hK'
                            obtain ⟨A5, c5, V, hrun, hE5, hgr⟩ := cat2 (d := 1) hE2.out hB1.out (by omega) (by omega)
                            go_simp
                            refine hK _ _ ?_
                            clear hK K
                            replace hE5 := Lib.hid hE5
                            clear hgr hrun
                            refine wpAny_ready (rs := [7]) (by kernel_rfl) (by simp) ?_
                            refine AllReady.cons rfl (fun K hK => ?_) ?_
                            · have hK' := hK; clear hK; have hK := hK'; clear hK'
                              have hL := legal_any k A5 (n + 1 + 1) c5 _ V hE5.out.es (by omega)
                              rw [F4.out] at hL
                              go_simp
                              go_wp2_with (go_at_call 10; refine hL.mono ?_; rintro e V ⟨rfl, b9⟩; have kE := Lib.hid (hE5.out.bel.trans (b9.mono hE5.out.bel.size)))
                              first | (refine hK _ _ ?_; clear hK K) | skip
                              refine wpAny_take (i := 8) (v := ?_) rfl (by kernel_rfl) (by kernel_rfl) (by kernel_rfl) (fun _ _ _ h => h) (Or.inl ⟨by rfl, by intro w; go_simp; first | done | with_reducible rfl⟩) ?_
                              simp only [List.getElem_toArray, List.getElem_cons_succ, List.getElem_cons_zero, Act.put, List.setIfInBounds_toArray, List.set_cons_zero, List.set_cons_succ]
                              refine wpAny_take (i := 9) (v := ?_) rfl (by kernel_rfl) (by kernel_rfl) (by kernel_rfl) (fun _ _ _ h => h) (Or.inl ⟨by rfl, by intro w; go_simp; first | done | with_reducible rfl⟩) ?_
                              simp only [List.getElem_toArray, List.getElem_cons_succ, List.getElem_cons_zero, Act.put, List.setIfInBounds_toArray, List.set_cons_zero, List.set_cons_succ]
                              refine wpAny_take (i := 10) (v := ?_) rfl (by kernel_rfl) (by kernel_rfl) (by kernel_rfl) (fun _ _ _ h => h) (Or.inl ⟨by rfl, by intro w; go_simp; first | done | with_reducible rfl⟩) ?_
                              simp only [List.getElem_toArray, List.getElem_cons_succ, List.getElem_cons_zero, Act.put, List.setIfInBounds_toArray, List.set_cons_zero, List.set_cons_succ]
                              refine wpAny_take (i := 11) (v := ?_) rfl (by kernel_rfl) (by kernel_rfl) (by kernel_rfl) (fun _ _ _ h => h) (Or.inl ⟨by rfl, by intro w; go_simp; first | done | with_reducible rfl⟩) ?_
                              simp only [List.getElem_toArray, List.getElem_cons_succ, List.getElem_cons_zero, Act.put, List.setIfInBounds_toArray, List.set_cons_zero, List.set_cons_succ]
                              refine wpAny_take (i := 12) (v := ?_) rfl (by kernel_rfl) (by kernel_rfl) (by kernel_rfl) (fun _ _ _ h => h) (Or.inl ⟨by rfl, by intro w; go_simp; first | done | with_reducible rfl⟩) ?_
                              simp only [List.getElem_toArray, List.getElem_cons_succ, List.getElem_cons_zero, Act.put, List.setIfInBounds_toArray, List.set_cons_zero, List.set_cons_succ]
                              refine wpAny_take (i := 13) (v := ?_) rfl (by kernel_rfl) (by kernel_rfl) (by kernel_rfl) (fun _ _ _ h => h) (Or.inl ⟨by rfl, by intro w; go_simp; first | done | with_reducible rfl⟩) ?_
                              simp only [List.getElem_toArray, List.getElem_cons_succ, List.getElem_cons_zero, Act.put, List.setIfInBounds_toArray, List.set_cons_zero, List.set_cons_succ]
                              refine wpAny_take (i := 14) (v := ?_) rfl (by kernel_rfl) (by kernel_rfl) (by kernel_rfl) (fun _ _ _ h => h) (Or.inl ⟨by rfl, by intro w; go_simp; first | done | with_reducible rfl⟩) ?_
                              simp only [List.getElem_toArray, List.getElem_cons_succ, List.getElem_cons_zero, Act.put, List.setIfInBounds_toArray, List.set_cons_zero, List.set_cons_succ]
                              refine wpAny_done (by kernel_rfl) ?_ _
                              go_wp2_with (fail)
                              go_meet
                              exact ⟨rfl, rfl, rfl, hE9.out.bel.trans (kE.out.mono hE9.out.bel.size)⟩
                            exact AllReady.nil
                          exact AllReady.nil
                        exact AllReady.nil
                      exact AllReady.nil
                    refine AllReady.cons rfl (fun K hK => ?_) ?_
                    · have hK' := hK; clear hK; have hK := hK'; clear hK'
                      have q0 := (kV.out.cell (p := ⟨bx, 0, none⟩) hbxR).trans r0.out
                      have q1 := (kV.out.cell (p := ⟨bx, 1, none⟩) hbxR).trans r1.out
                      have q2 := (kV.out.cell (p := ⟨bx, 2, none⟩) hbxR).trans r2.out
                      go_simp
                      refine hK _ _ ?_
                      clear hK K
                      clear q0 q1 q2
                      refine wpAny_ready (rs := [3, 5]) (by kernel_rfl) (by simp) ?_
                      refine AllReady.cons rfl (fun K hK => ?_) ?_
                      · have hK' := hK; clear hK; have hK := hK'; clear hK'
                        obtain ⟨A2', c2', V, hrun, hE2, hgr⟩ := cat2 (d := c3) hE1.out (SL.keep hE9.out.es kV.out) (by omega) (by omega)
                        rw [Nat.zero_add] at hrun hE2
                        rw [List.nil_append] at hE2
                        go_simp
                        refine hK _ _ ?_
                        clear hK K
                        clear hrun
                        have kV1 := Lib.hid hE2.bel
                        replace hE2 := Lib.hid hE2
                        clear kV; have kV := kV1; clear kV1 hgr
                        refine wpAny_ready (rs := [5]) (by kernel_rfl) (by simp) ?_
                        refine AllReady.cons rfl (fun K hK => ?_) ?_
                        · have hK' := hK; clear hK; have hK := hK'; clear hK'
                          go_simp
                          refine hK _ _ ?_
                          clear hK K
                          have hB1 := Lib.hid (es_one V ((id : Int), (sx : Int), px))
                          have kV1 := Lib.hid (kV.out.alloc kV.out.size (.cells #[.int .i64 (id : Int), .int .i64 (sx : Int), .int .i64 px] 40))
                          have hE3 := Lib.hid (hE2.out.keep ((Below.refl V.heap.size V).alloc (Nat.le_refl _) (.cells #[.int .i64 (id : Int), .int .i64 (sx : Int), .int .i64 px] 40)))
                          clear hE2; have hE2 := hE3; clear hE3
                          have hbB := Lib.hid (show V.heap.size < (V.alloc (.cells #[.int .i64 (id : Int), .int .i64 (sx : Int), .int .i64 px] 40)).heap.size from by simp)
                          clear kV; have kV := kV1; clear kV1
                          generalize V.heap.size = bB at *
                          generalize V.alloc (.cells #[.int .i64 (id : Int), .int .i64 (sx : Int), .int .i64 px] 40) = V at *
                          refine wpAny_ready (rs := [6]) (by kernel_rfl) (by simp) ?_
                          refine AllReady.cons rfl (fun K hK => ?_) ?_
                          · have hK' := hK; clear hK; have hK := hK'; clear hK'
                            obtain ⟨A5, c5, V, hrun, hE5, hgr⟩ := cat2 (d := 1) hE2.out hB1.out (by omega) (by omega)
                            go_simp
                            refine hK _ _ ?_
                            clear hK K
                            replace hE5 := Lib.hid hE5
                            clear hgr hrun
                            refine wpAny_ready (rs := [7]) (by kernel_rfl) (by simp) ?_
                            refine AllReady.cons rfl (fun K hK => ?_) ?_
                            · have hK' := hK; clear hK; have hK := hK'; clear hK'
                              have hL := legal_any k A5 (n + 1 + 1) c5 _ V hE5.out.es (by omega)
                              rw [F4.out] at hL
                              go_simp
                              go_wp2_with (go_at_call 10; refine hL.mono ?_; rintro e V ⟨rfl, b9⟩; have kE := Lib.hid (hE5.out.bel.trans (b9.mono hE5.out.bel.size)))
                              first | (refine hK _ _ ?_; clear hK K) | skip
                              refine wpAny_take (i := 8) (v := ?_) rfl (by kernel_rfl) (by kernel_rfl) (by kernel_rfl) (fun _ _ _ h => h) (Or.inl ⟨by rfl, by intro w; go_simp; first | done | with_reducible rfl⟩) ?_
                              simp only [List.getElem_toArray, List.getElem_cons_succ, List.getElem_cons_zero, Act.put, List.setIfInBounds_toArray, List.set_cons_zero, List.set_cons_succ]
                              refine wpAny_take (i := 9) (v := ?_) rfl (by kernel_rfl) (by kernel_rfl) (by kernel_rfl) (fun _ _ _ h => h) (Or.inl ⟨by rfl, by intro w; go_simp; first | done | with_reducible rfl⟩) ?_
                              simp only [List.getElem_toArray, List.getElem_cons_succ, List.getElem_cons_zero, Act.put, List.setIfInBounds_toArray, List.set_cons_zero, List.set_cons_succ]
                              refine wpAny_take (i := 10) (v := ?_) rfl (by kernel_rfl) (by kernel_rfl) (by kernel_rfl) (fun _ _ _ h => h) (Or.inl ⟨by rfl, by intro w; go_simp; first | done | with_reducible rfl⟩) ?_
                              simp only [List.getElem_toArray, List.getElem_cons_succ, List.getElem_cons_zero, Act.put, List.setIfInBounds_toArray, List.set_cons_zero, List.set_cons_succ]
                              refine wpAny_take (i := 11) (v := ?_) rfl (by kernel_rfl) (by kernel_rfl) (by kernel_rfl) (fun _ _ _ h => h) (Or.inl ⟨by rfl, by intro w; go_simp; first | done | with_reducible rfl⟩) ?_
                              simp only [List.getElem_toArray, List.getElem_cons_succ, List.getElem_cons_zero, Act.put, List.setIfInBounds_toArray, List.set_cons_zero, List.set_cons_succ]
                              refine wpAny_take (i := 12) (v := ?_) rfl (by kernel_rfl) (by kernel_rfl) (by kernel_rfl) (fun _ _ _ h => h) (Or.inl ⟨by rfl, by intro w; go_simp; first | done | with_reducible rfl⟩) ?_
                              simp only [List.getElem_toArray, List.getElem_cons_succ, List.getElem_cons_zero, Act.put, List.setIfInBounds_toArray, List.set_cons_zero, List.set_cons_succ]
                              refine wpAny_take (i := 13) (v := ?_) rfl (by kernel_rfl) (by kernel_rfl) (by kernel_rfl) (fun _ _ _ h => h) (Or.inl ⟨by rfl, by intro w; go_simp; first | done | with_reducible rfl⟩) ?_
                              simp only [List.getElem_toArray, List.getElem_cons_succ, List.getElem_cons_zero, Act.put, List.setIfInBounds_toArray, List.set_cons_zero, List.set_cons_succ]
                              refine wpAny_take (i := 14) (v := ?_) rfl (by kernel_rfl) (by kernel_rfl) (by kernel_rfl) (fun _ _ _ h => h) (Or.inl ⟨by rfl, by intro w; go_simp; first | done | with_reducible rfl⟩) ?_
                              simp only [List.getElem_toArray, List.getElem_cons_succ, List.getElem_cons_zero, Act.put, List.setIfInBounds_toArray, List.set_cons_zero, List.set_cons_succ]
                              refine wpAny_done (by kernel_rfl) ?_ _
                              go_wp2_with (fail)
                              go_meet
                              exact ⟨rfl, rfl, rfl, hE9.out.bel.trans (kE.out.mono hE9.out.bel.size)⟩
                            exact AllReady.nil
                          exact AllReady.nil
                        exact AllReady.nil
                      refine AllReady.cons rfl (fun K hK => ?_) ?_
                      · have hK' := hK; clear hK; have hK := hK'; clear hK'
                        go_simp
                        refine hK _ _ ?_
                        clear hK K
                        have hB1 := Lib.hid (es_one V ((id : Int), (sx : Int), px))
                        have kV1 := Lib.hid (kV.out.alloc kV.out.size (.cells #[.int .i64 (id : Int), .int .i64 (sx : Int), .int .i64 px] 40))
                        have hE3 := Lib.hid (hE1.out.keep ((Below.refl V.heap.size V).alloc (Nat.le_refl _) (.cells #[.int .i64 (id : Int), .int .i64 (sx : Int), .int .i64 px] 40)))
                        have hne := Lib.hid (show ea ≠ V.heap.size from by have := hea.out; omega)
                        clear hE1; have hE1 := hE3; clear hE3
                        have hbB := Lib.hid (show V.heap.size < (V.alloc (.cells #[.int .i64 (id : Int), .int .i64 (sx : Int), .int .i64 px] 40)).heap.size from by simp)
                        clear kV; have kV := kV1; clear kV1
                        generalize V.heap.size = bB at *
                        generalize V.alloc (.cells #[.int .i64 (id : Int), .int .i64 (sx : Int), .int .i64 px] 40) = V at *
                        refine wpAny_ready (rs := [3]) (by kernel_rfl) (by simp) ?_
                        refine AllReady.cons rfl (fun K hK => ?_) ?_
                        · have hK' := hK; clear hK; have hK := hK'; clear hK'
                          obtain ⟨A2', c2', V, hrun, hE2, hgr⟩ := cat2 (d := c3) hE1.out (SL.keep hE9.out.es kV.out) (by omega) (by omega)
                          rw [Nat.zero_add] at hrun hE2
                          rw [List.nil_append] at hE2
                          go_simp
                          refine hK _ _ ?_
                          clear hK K
                          clear hrun
                          have kV1 := Lib.hid hE2.bel
                          have hB2 := Lib.hid (SL.grown hB1.out hgr (fun g e1 e2 => hne.out (by simp only [rowOf, Option.some.injEq] at e1 e2; omega)))
                          clear hB1; have hB1 := hB2; clear hB2
                          replace hE2 := Lib.hid hE2
                          clear kV; have kV := kV1; clear kV1 hgr
                          refine wpAny_ready (rs := [6]) (by kernel_rfl) (by simp) ?_
                          refine AllReady.cons rfl (fun K hK => ?_) ?_
                          · have hK' := hK; clear hK; have hK := hK'; clear hK'
                            obtain ⟨A5, c5, V, hrun, hE5, hgr⟩ := cat2 (d := 1) hE2.out hB1.out (by omega) (by omega)
                            go_simp
                            refine hK _ _ ?_
                            clear hK K
                            replace hE5 := Lib.hid hE5
                            clear hgr hrun
                            refine wpAny_ready (rs := [7]) (by kernel_rfl) (by simp) ?_
                            refine AllReady.cons rfl (fun K hK => ?_) ?_
                            · have hK' := hK; clear hK; have hK := hK'; clear hK'
                              have hL := legal_any k A5 (n + 1 + 1) c5 _ V hE5.out.es (by omega)
                              rw [F4.out] at hL
                              go_simp
                              go_wp2_with (go_at_call 10; refine hL.mono ?_; rintro e V ⟨rfl, b9⟩; have kE := Lib.hid (hE5.out.bel.trans (b9.mono hE5.out.bel.size)))
                              first | (refine hK _ _ ?_; clear hK K) | skip
                              refine wpAny_take (i := 8) (v := ?_) rfl (by kernel_rfl) (by kernel_rfl) (by kernel_rfl) (fun _ _ _ h => h) (Or.inl ⟨by rfl, by intro w; go_simp; first | done | with_reducible rfl⟩) ?_
                              simp only [List.getElem_toArray, List.getElem_cons_succ, List.getElem_cons_zero, Act.put, List.setIfInBounds_toArray, List.set_cons_zero, List.set_cons_succ]
                              refine wpAny_take (i := 9) (v := ?_) rfl (by kernel_rfl) (by kernel_rfl) (by kernel_rfl) (fun _ _ _ h => h) (Or.inl ⟨by rfl, by intro w; go_simp; first | done | with_reducible rfl⟩) ?_
                              simp only [List.getElem_toArray, List.getElem_cons_succ, List.getElem_cons_zero, Act.put, List.setIfInBounds_toArray, List.set_cons_zero, List.set_cons_succ]
                              refine wpAny_take (i := 10) (v := ?_) rfl (by kernel_rfl) (by kernel_rfl) (by kernel_rfl) (fun _ _ _ h => h) (Or.inl ⟨by rfl, by intro w; go_simp; first | done | with_reducible rfl⟩) ?_
                              simp only [List.getElem_toArray, List.getElem_cons_succ, List.getElem_cons_zero, Act.put, List.setIfInBounds_toArray, List.set_cons_zero, List.set_cons_succ]
                              refine wpAny_take (i := 11) (v := ?_) rfl (by kernel_rfl) (by kernel_rfl) (by kernel_rfl) (fun _ _ _ h => h) (Or.inl ⟨by rfl, by intro w; go_simp; first | done | with_reducible rfl⟩) ?_
                              simp only [List.getElem_toArray, List.getElem_cons_succ, List.getElem_cons_zero, Act.put, List.setIfInBounds_toArray, List.set_cons_zero, List.set_cons_succ]
                              refine wpAny_take (i := 12) (v := ?_) rfl (by kernel_rfl) (by kernel_rfl) (by kernel_rfl) (fun _ _ _ h => h) (Or.inl ⟨by rfl, by intro w; go_simp; first | done | with_reducible rfl⟩) ?_
                              simp only [List.getElem_toArray, List.getElem_cons_succ, List.getElem_cons_zero, Act.put, List.setIfInBounds_toArray, List.set_cons_zero, List.set_cons_succ]
                              refine wpAny_take (i := 13) (v := ?_) rfl (by kernel_rfl) (by kernel_rfl) (by kernel_rfl) (fun _ _ _ h => h) (Or.inl ⟨by rfl, by intro w; go_simp; first | done | with_reducible rfl⟩) ?_
                              simp only [List.getElem_toArray, List.getElem_cons_succ, List.getElem_cons_zero, Act.put, List.setIfInBounds_toArray, List.set_cons_zero, List.set_cons_succ]
                              refine wpAny_take (i := 14) (v := ?_) rfl (by kernel_rfl) (by kernel_rfl) (by kernel_rfl) (fun _ _ _ h => h) (Or.inl ⟨by rfl, by intro w; go_simp; first | done | with_reducible rfl⟩) ?_
                              simp only [List.getElem_toArray, List.getElem_cons_succ, List.getElem_cons_zero, Act.put, List.setIfInBounds_toArray, List.set_cons_zero, List.set_cons_succ]
                              refine wpAny_done (by kernel_rfl) ?_ _
                              go_wp2_with (fail)
                              go_meet
                              exact ⟨rfl, rfl, rfl, hE9.out.bel.trans (kE.out.mono hE9.out.bel.size)⟩
                            exact AllReady.nil
                          exact AllReady.nil
                        exact AllReady.nil
                      exact AllReady.nil
                    exact AllReady.nil
                  refine AllReady.cons rfl (fun K hK => ?_) ?_
                  · have hK' := hK; clear hK; have hK := hK'; clear hK'
                    have q0 := (kV.out.cell (p := ⟨bx, 0, none⟩) hbxR).trans r0.out
                    have q1 := (kV.out.cell (p := ⟨bx, 1, none⟩) hbxR).trans r1.out
                    have q2 := (kV.out.cell (p := ⟨bx, 2, none⟩) hbxR).trans r2.out
                    go_simp
                    refine hK _ _ ?_
                    clear hK K
                    clear q0 q1 q2
                    refine wpAny_ready (rs := [1, 5]) (by kernel_rfl) (by simp) ?_
                    refine AllReady.cons rfl (fun K hK => ?_) ?_
                    · have hK' := hK; clear hK; have hK := hK'; clear hK'
                      go_simp
                      refine hK _ _ ?_
                      clear hK K
                      have hE1 := Lib.hid (emp_new kV.out)
                      have kV1 := Lib.hid (hE1.out.bel)
                      have hea := Lib.hid (show V.heap.size < (V.alloc (.cells #[] 40)).heap.size from by simp)
                      clear kV; have kV := kV1; clear kV1
                      generalize V.heap.size = ea at *
                      generalize V.alloc (.cells #[] 40) = V at *
                      refine wpAny_ready (rs := [3, 5]) (by kernel_rfl) (by simp) ?_
                      refine AllReady.cons rfl (fun K hK => ?_) ?_
                      · have hK' := hK; clear hK; have hK := hK'; clear hK'
                        obtain ⟨A2', c2', V, hrun, hE2, hgr⟩ := cat2 (d := c3) hE1.out (SL.keep hE9.out.es kV.out) (by omega) (by omega)
                        rw [Nat.zero_add] at hrun hE2
                        rw [List.nil_append] at hE2
                        go_simp
                        refine hK _ _ ?_
                        clear hK K
                        clear hrun
                        have kV1 := Lib.hid hE2.bel
                        replace hE2 := Lib.hid hE2
                        clear kV; have kV := kV1; clear kV1 hgr
                        refine wpAny_ready (rs := [5]) (by kernel_rfl) (by simp) ?_
                        refine AllReady.cons rfl (fun K hK => ?_) ?_
                        · have hK' := hK; clear hK; have hK := hK'; clear hK'
                          go_simp
                          refine hK _ _ ?_
                          clear hK K
                          have hB1 := Lib.hid (es_one V ((id : Int), (sx : Int), px))
                          have kV1 := Lib.hid (kV.out.alloc kV.out.size (.cells #[.int .i64 (id : Int), .int .i64 (sx : Int), .int .i64 px] 40))
                          have hE3 := Lib.hid (hE2.out.keep ((Below.refl V.heap.size V).alloc (Nat.le_refl _) (.cells #[.int .i64 (id : Int), .int .i64 (sx : Int), .int .i64 px] 40)))
                          clear hE2; have hE2 := hE3; clear hE3
                          have hbB := Lib.hid (show V.heap.size < (V.alloc (.cells #[.int .i64 (id : Int), .int .i64 (sx : Int), .int .i64 px] 40)).heap.size from by simp)
                          clear kV; have kV := kV1; clear kV1
                          generalize V.heap.size = bB at *
                          generalize V.alloc (.cells #[.int .i64 (id : Int), .int .i64 (sx : Int), .int .i64 px] 40) = V at *
                          refine wpAny_ready (rs := [6]) (by kernel_rfl) (by simp) ?_
                          refine AllReady.cons rfl (fun K hK => ?_) ?_
                          · have hK' := hK; clear hK; have hK := hK'; clear hK'
                            obtain ⟨A5, c5, V, hrun, hE5, hgr⟩ := cat2 (d := 1) hE2.out hB1.out (by omega) (by omega)
                            go_simp
                            refine hK _ _ ?_
                            clear hK K
                            replace hE5 := Lib.hid hE5
                            clear hgr hrun
                            refine wpAny_ready (rs := [7]) (by kernel_rfl) (by simp) ?_
                            refine AllReady.cons rfl (fun K hK => ?_) ?_
                            · have hK' := hK; clear hK; have hK := hK'; clear hK'
                              have hL := legal_any k A5 (n + 1 + 1) c5 _ V hE5.out.es (by omega)
                              rw [F4.out] at hL
                              go_simp
                              go_wp2_with (go_at_call 10; refine hL.mono ?_; rintro e V ⟨rfl, b9⟩; have kE := Lib.hid (hE5.out.bel.trans (b9.mono hE5.out.bel.size)))
                              first | (refine hK _ _ ?_; clear hK K) | skip
                              refine wpAny_take (i := 8) (v := ?_) rfl (by kernel_rfl) (by kernel_rfl) (by kernel_rfl) (fun _ _ _ h => h) (Or.inl ⟨by rfl, by intro w; go_simp; first | done | with_reducible rfl⟩) ?_
                              simp only [List.getElem_toArray, List.getElem_cons_succ, List.getElem_cons_zero, Act.put, List.setIfInBounds_toArray, List.set_cons_zero, List.set_cons_succ]
                              refine wpAny_take (i := 9) (v := ?_) rfl (by kernel_rfl) (by kernel_rfl) (by kernel_rfl) (fun _ _ _ h => h) (Or.inl ⟨by rfl, by intro w; go_simp; first | done | with_reducible rfl⟩) ?_
                              simp only [List.getElem_toArray, List.getElem_cons_succ, List.getElem_cons_zero, Act.put, List.setIfInBounds_toArray, List.set_cons_zero, List.set_cons_succ]
                              refine wpAny_take (i := 10) (v := ?_) rfl (by kernel_rfl) (by kernel_rfl) (by kernel_rfl) (fun _ _ _ h => h) (Or.inl ⟨by rfl, by intro w; go_simp; first | done | with_reducible rfl⟩) ?_
                              simp only [List.getElem_toArray, List.getElem_cons_succ, List.getElem_cons_zero, Act.put, List.setIfInBounds_toArray, List.set_cons_zero, List.set_cons_succ]
                              refine wpAny_take (i := 11) (v := ?_) rfl (by kernel_rfl) (by kernel_rfl) (by kernel_rfl) (fun _ _ _ h => h) (Or.inl ⟨by rfl, by intro w; go_simp; first | done | with_reducible rfl⟩) ?_
                              simp only [List.getElem_toArray, List.getElem_cons_succ, List.getElem_cons_zero, Act.put, List.setIfInBounds_toArray, List.set_cons_zero, List.set_cons_succ]
                              refine wpAny_take (i := 12) (v := ?_) rfl (by kernel_rfl) (by kernel_rfl) (by kernel_rfl) (fun _ _ _ h => h) (Or.inl ⟨by rfl, by intro w; go_simp; first | done | with_reducible rfl⟩) ?_
                              simp only [List.getElem_toArray, List.getElem_cons_succ, List.getElem_cons_zero, Act.put, List.setIfInBounds_toArray, List.set_cons_zero, List.set_cons_succ]
                              refine wpAny_take (i := 13) (v := ?_) rfl (by kernel_rfl) (by kernel_rfl) (by kernel_rfl) (fun _ _ _ h => h) (Or.inl ⟨by rfl, by intro w; go_simp; first | done | with_reducible rfl⟩) ?_
                              simp only [List.getElem_toArray, List.getElem_cons_succ, List.getElem_cons_zero, Act.put, List.setIfInBounds_toArray, List.set_cons_zero, List.set_cons_succ]
                              refine wpAny_take (i := 14) (v := ?_) rfl (by kernel_rfl) (by kernel_rfl) (by kernel_rfl) (fun _ _ _ h => h) (Or.inl ⟨by rfl, by intro w; go_simp; first | done | with_reducible rfl⟩) ?_
                              simp only [List.getElem_toArray, List.getElem_cons_succ, List.getElem_cons_zero, Act.put, List.setIfInBounds_toArray, List.set_cons_zero, List.set_cons_succ]
                              refine wpAny_done (by kernel_rfl) ?_ _
                              go_wp2_with (fail)
                              go_meet
                              exact ⟨rfl, rfl, rfl, hE9.out.bel.trans (kE.out.mono hE9.out.bel.size)⟩
                            exact AllReady.nil
                          exact AllReady.nil
                        exact AllReady.nil
                      refine AllReady.cons rfl (fun K hK => ?_) ?_
                      · have hK' := hK; clear hK; have hK := hK'; clear hK'
                        go_simp
                        refine hK _ _ ?_
                        clear hK K
                        have hB1 := Lib.hid (es_one V ((id : Int), (sx : Int), px))
                        have kV1 := Lib.hid (kV.out.alloc kV.out.size (.cells #[.int .i64 (id : Int), .int .i64 (sx : Int), .int .i64 px] 40))
                        have hE3 := Lib.hid (hE1.out.keep ((Below.refl V.heap.size V).alloc (Nat.le_refl _) (.cells #[.int .i64 (id : Int), .int .i64 (sx : Int), .int .i64 px] 40)))
                        have hne := Lib.hid (show ea ≠ V.heap.size from by have := hea.out; omega)
                        clear hE1; have hE1 := hE3; clear hE3
                        have hbB := Lib.hid (show V.heap.size < (V.alloc (.cells #[.int .i64 (id : Int), .int .i64 (sx : Int), .int .i64 px] 40)).heap.size from by simp)
                        clear kV; have kV := kV1; clear kV1
                        generalize V.heap.size = bB at *
                        generalize V.alloc (.cells #[.int .i64 (id : Int), .int .i64 (sx : Int), .int .i64 px] 40) = V at *
                        refine wpAny_ready (rs := [3]) (by kernel_rfl) (by simp) ?_
                        refine AllReady.cons rfl (fun K hK => ?_) ?_
                        · have hK' := hK; clear hK; have hK := hK'; clear hK'
                          obtain ⟨A2', c2', V, hrun, hE2, hgr⟩ := cat2 (d := c3) hE1.out (SL.keep hE9.out.es kV.out) (by omega) (by omega)
                          rw [Nat.zero_add] at hrun hE2
                          rw [List.nil_append] at hE2
                          go_simp
                          refine hK _ _ ?_
                          clear hK K
                          clear hrun
                          have kV1 := Lib.hid hE2.bel
                          have hB2 := Lib.hid (SL.grown hB1.out hgr (fun g e1 e2 => hne.out (by simp only [rowOf, Option.some.injEq] at e1 e2; omega)))
                          clear hB1; have hB1 := hB2; clear hB2
                          replace hE2 := Lib.hid hE2
                          clear kV; have kV := kV1; clear kV1 hgr
                          refine wpAny_ready (rs := [6]) (by kernel_rfl) (by simp) ?_
                          refine AllReady.cons rfl (fun K hK => ?_) ?_
                          · have hK' := hK; clear hK; have hK := hK'; clear hK'
                            obtain ⟨A5, c5, V, hrun, hE5, hgr⟩ := cat2 (d := 1) hE2.out hB1.out (by omega) (by omega)
                            go_simp
                            refine hK _ _ ?_
                            clear hK K
                            replace hE5 := Lib.hid hE5
                            clear hgr hrun
                            refine wpAny_ready (rs := [7]) (by kernel_rfl) (by simp) ?_
                            refine AllReady.cons rfl (fun K hK => ?_) ?_
                            · have hK' := hK; clear hK; have hK := hK'; clear hK'
                              have hL := legal_any k A5 (n + 1 + 1) c5 _ V hE5.out.es (by omega)
                              rw [F4.out] at hL
                              go_simp
                              go_wp2_with (go_at_call 10; refine hL.mono ?_; rintro e V ⟨rfl, b9⟩; have kE := Lib.hid (hE5.out.bel.trans (b9.mono hE5.out.bel.size)))
                              first | (refine hK _ _ ?_; clear hK K) | skip
                              refine wpAny_take (i := 8) (v := ?_) rfl (by kernel_rfl) (by kernel_rfl) (by kernel_rfl) (fun _ _ _ h => h) (Or.inl ⟨by rfl, by intro w; go_simp; first | done | with_reducible rfl⟩) ?_
                              simp only [List.getElem_toArray, List.getElem_cons_succ, List.getElem_cons_zero, Act.put, List.setIfInBounds_toArray, List.set_cons_zero, List.set_cons_succ]
                              refine wpAny_take (i := 9) (v := ?_) rfl (by kernel_rfl) (by kernel_rfl) (by kernel_rfl) (fun _ _ _ h => h) (Or.inl ⟨by rfl, by intro w; go_simp; first | done | with_reducible rfl⟩) ?_
                              simp only [List.getElem_toArray, List.getElem_cons_succ, List.getElem_cons_zero, Act.put, List.setIfInBounds_toArray, List.set_cons_zero, List.set_cons_succ]
                              refine wpAny_take (i := 10) (v := ?_) rfl (by kernel_rfl) (by kernel_rfl) (by kernel_rfl) (fun _ _ _ h => h) (Or.inl ⟨by rfl, by intro w; go_simp; first | done | with_reducible rfl⟩) ?_
                              simp only [List.getElem_toArray, List.getElem_cons_succ, List.getElem_cons_zero, Act.put, List.setIfInBounds_toArray, List.set_cons_zero, List.set_cons_succ]
                              refine wpAny_take (i := 11) (v := ?_) rfl (by kernel_rfl) (by kernel_rfl) (by kernel_rfl) (fun _ _ _ h => h) (Or.inl ⟨by rfl, by intro w; go_simp; first | done | with_reducible rfl⟩) ?_
                              simp only [List.getElem_toArray, List.getElem_cons_succ, List.getElem_cons_zero, Act.put, List.setIfInBounds_toArray, List.set_cons_zero, List.set_cons_succ]
                              refine wpAny_take (i := 12) (v := ?_) rfl (by kernel_rfl) (by kernel_rfl) (by kernel_rfl) (fun _ _ _ h => h) (Or.inl ⟨by rfl, by intro w; go_simp; first | done | with_reducible rfl⟩) ?_
                              simp only [List.getElem_toArray, List.getElem_cons_succ, List.getElem_cons_zero, Act.put, List.setIfInBounds_toArray, List.set_cons_zero, List.set_cons_succ]
                              refine wpAny_take (i := 13) (v := ?_) rfl (by kernel_rfl) (by kernel_rfl) (by kernel_rfl) (fun _ _ _ h => h) (Or.inl ⟨by rfl, by intro w; go_simp; first | done | with_reducible rfl⟩) ?_
                              simp only [List.getElem_toArray, List.getElem_cons_succ, List.getElem_cons_zero, Act.put, List.setIfInBounds_toArray, List.set_cons_zero, List.set_cons_succ]
                              refine wpAny_take (i := 14) (v := ?_) rfl (by kernel_rfl) (by kernel_rfl) (by kernel_rfl) (fun _ _ _ h => h) (Or.inl ⟨by rfl, by intro w; go_simp; first | done | with_reducible rfl⟩) ?_
                              simp only [List.getElem_toArray, List.getElem_cons_succ, List.getElem_cons_zero, Act.put, List.setIfInBounds_toArray, List.set_cons_zero, List.set_cons_succ]
                              refine wpAny_done (by kernel_rfl) ?_ _
                              go_wp2_with (fail)
                              go_meet
                              exact ⟨rfl, rfl, rfl, hE9.out.bel.trans (kE.out.mono hE9.out.bel.size)⟩
                            exact AllReady.nil
                          exact AllReady.nil
                        exact AllReady.nil
                      exact AllReady.nil
                    refine AllReady.cons rfl (fun K hK => ?_) ?_
                    · have hK' := hK; clear hK; have hK := hK'; clear hK'
                      go_simp
                      refine hK _ _ ?_
                      clear hK K
                      have hB1 := Lib.hid (es_one V ((id : Int), (sx : Int), px))
                      have kV1 := Lib.hid (kV.out.alloc kV.out.size (.cells #[.int .i64 (id : Int), .int .i64 (sx : Int), .int .i64 px] 40))
                      have hbB := Lib.hid (show V.heap.size < (V.alloc (.cells #[.int .i64 (id : Int), .int .i64 (sx : Int), .int .i64 px] 40)).heap.size from by simp)
                      clear kV; have kV := kV1; clear kV1
                      generalize V.heap.size = bB at *
                      generalize V.alloc (.cells #[.int .i64 (id : Int), .int .i64 (sx : Int), .int .i64 px] 40) = V at *
                      refine wpAny_ready (rs := [1]) (by kernel_rfl) (by simp) ?_
                      refine AllReady.cons rfl (fun K hK => ?_) ?_
                      · have hK' := hK; clear hK; have hK := hK'; clear hK'
                        go_simp
                        refine hK _ _ ?_
                        clear hK K
                        have hE1 := Lib.hid (emp_new kV.out)
                        have kV1 := Lib.hid (hE1.out.bel)
                        have hB2 := Lib.hid (SL.keep hB1.out ((Below.refl V.heap.size V).alloc (Nat.le_refl _) (.cells #[] 40)))
                        have hne := Lib.hid (show V.heap.size ≠ bB from by have := hbB.out; omega)
                        clear hB1; have hB1 := hB2; clear hB2
                        have hea := Lib.hid (show V.heap.size < (V.alloc (.cells #[] 40)).heap.size from by simp)
                        clear kV; have kV := kV1; clear kV1
                        generalize V.heap.size = ea at *
                        generalize V.alloc (.cells #[] 40) = V at *
                        refine wpAny_ready (rs := [3]) (by kernel_rfl) (by simp) ?_
                        refine AllReady.cons rfl (fun K hK => ?_) ?_
                        · have hK' := hK; clear hK; have hK := hK'; clear hK'
                          obtain ⟨A2', c2', V, hrun, hE2, hgr⟩ := cat2 (d := c3) hE1.out (SL.keep hE9.out.es kV.out) (by omega) (by omega)
                          rw [Nat.zero_add] at hrun hE2
                          rw [List.nil_append] at hE2
                          go_simp
                          refine hK _ _ ?_
                          clear hK K
                          clear hrun
                          have kV1 := Lib.hid hE2.bel
                          have hB2 := Lib.hid (SL.grown hB1.out hgr (fun g e1 e2 => hne.out (by simp only [rowOf, Option.some.injEq] at e1 e2; omega)))
                          clear hB1; have hB1 := hB2; clear hB2
                          replace hE2 := Lib.hid hE2
                          clear kV; have kV := kV1; clear kV1 hgr
                          refine wpAny_ready (rs := [6]) (by kernel_rfl) (by simp) ?_
                          refine AllReady.cons rfl (fun K hK => ?_) ?_
                          · have hK' := hK; clear hK; have hK := hK'; clear hK'
                            obtain ⟨A5, c5, V, hrun, hE5, hgr⟩ := cat2 (d := 1) hE2.out hB1.out (by omega) (by omega)
                            go_simp
                            refine hK _ _ ?_
                            clear hK K
                            replace hE5 := Lib.hid hE5
                            clear hgr hrun
                            refine wpAny_ready (rs := [7]) (by kernel_rfl) (by simp) ?_
                            refine AllReady.cons rfl (fun K hK => ?_) ?_
                            · have hK' := hK; clear hK; have hK := hK'; clear hK'
                              have hL := legal_any k A5 (n + 1 + 1) c5 _ V hE5.out.es (by omega)
                              rw [F4.out] at hL
                              go_simp
                              go_wp2_with (go_at_call 10; refine hL.mono ?_; rintro e V ⟨rfl, b9⟩; have kE := Lib.hid (hE5.out.bel.trans (b9.mono hE5.out.bel.size)))
                              first | (refine hK _ _ ?_; clear hK K) | skip
                              refine wpAny_take (i := 8) (v := ?_) rfl (by kernel_rfl) (by kernel_rfl) (by kernel_rfl) (fun _ _ _ h => h) (Or.inl ⟨by rfl, by intro w; go_simp; first | done | with_reducible rfl⟩) ?_
                              simp only [List.getElem_toArray, List.getElem_cons_succ, List.getElem_cons_zero, Act.put, List.setIfInBounds_toArray, List.set_cons_zero, List.set_cons_succ]
                              refine wpAny_take (i := 9) (v := ?_) rfl (by kernel_rfl) (by kernel_rfl) (by kernel_rfl) (fun _ _ _ h => h) (Or.inl ⟨by rfl, by intro w; go_simp; first | done | with_reducible rfl⟩) ?_
                              simp only [List.getElem_toArray, List.getElem_cons_succ, List.getElem_cons_zero, Act.put, List.setIfInBounds_toArray, List.set_cons_zero, List.set_cons_succ]
                              refine wpAny_take (i := 10) (v := ?_) rfl (by kernel_rfl) (by kernel_rfl) (by kernel_rfl) (fun _ _ _ h => h) (Or.inl ⟨by rfl, by intro w; go_simp; first | done | with_reducible rfl⟩) ?_
                              simp only [List.getElem_toArray, List.getElem_cons_succ, List.getElem_cons_zero, Act.put, List.setIfInBounds_toArray, List.set_cons_zero, List.set_cons_succ]
                              refine wpAny_take (i := 11) (v := ?_) rfl (by kernel_rfl) (by kernel_rfl) (by kernel_rfl) (fun _ _ _ h => h) (Or.inl ⟨by rfl, by intro w; go_simp; first | done | with_reducible rfl⟩) ?_
                              simp only [List.getElem_toArray, List.getElem_cons_succ, List.getElem_cons_zero, Act.put, List.setIfInBounds_toArray, List.set_cons_zero, List.set_cons_succ]
                              refine wpAny_take (i := 12) (v := ?_) rfl (by kernel_rfl) (by kernel_rfl) (by kernel_rfl) (fun _ _ _ h => h) (Or.inl ⟨by rfl, by intro w; go_simp; first | done | with_reducible rfl⟩) ?_
                              simp only [List.getElem_toArray, List.getElem_cons_succ, List.getElem_cons_zero, Act.put, List.setIfInBounds_toArray, List.set_cons_zero, List.set_cons_succ]
                              refine wpAny_take (i := 13) (v := ?_) rfl (by kernel_rfl) (by kernel_rfl) (by kernel_rfl) (fun _ _ _ h => h) (Or.inl ⟨by rfl, by intro w; go_simp; first | done | with_reducible rfl⟩) ?_
                              simp only [List.getElem_toArray, List.getElem_cons_succ, List.getElem_cons_zero, Act.put, List.setIfInBounds_toArray, List.set_cons_zero, List.set_cons_succ]
                              refine wpAny_take (i := 14) (v := ?_) rfl (by kernel_rfl) (by kernel_rfl) (by kernel_rfl) (fun _ _ _ h => h) (Or.inl ⟨by rfl, by intro w; go_simp; first | done | with_reducible rfl⟩) ?_
                              simp only [List.getElem_toArray, List.getElem_cons_succ, List.getElem_cons_zero, Act.put, List.setIfInBounds_toArray, List.set_cons_zero, List.set_cons_succ]
                              refine wpAny_done (by kernel_rfl) ?_ _
                              go_wp2_with (fail)
                              go_meet
                              exact ⟨rfl, rfl, rfl, hE9.out.bel.trans (kE.out.mono hE9.out.bel.size)⟩
                            exact AllReady.nil
                          exact AllReady.nil
                        exact AllReady.nil
                      exact AllReady.nil
                    exact AllReady.nil
                  exact AllReady.nil
              case rest =>
                obtain ⟨rfl, rfl, rfl, hb10⟩ := hcut
                replace hb10 := Lib.hid hb10
                go_wp2_with (fail)
                refine (works_any wc).mono ?_
                rintro e w11 ⟨rfl, b11⟩
                go_wp2_with (fail)
                go_ret
                exact ⟨rfl, hb10.out.trans (b11.mono hb10.out.size)⟩
            | false =>
              obtain rfl : v1 = (n : Int) := by simpa using F2.out
              obtain rfl : v2 = (n : Int) := by simpa using F5.out
              go_wp2_with (fail)
              refine hL.mono ?_
              rintro e w8 ⟨rfl, b8⟩
              have hE8 := hE3'.out.keep b8
              have hN := next_any k A3 (n + 1) c3 _ w8 hE8.es (by omega)
              rw [F3.out] at hN
              try simp only [if_pos, if_true, if_false, Bool.false_eq_true] at hN
              have y0' := (b8.cell (p := ⟨bx, 0, none⟩) hbxc).trans y0.out
              have y1' := (b8.cell (p := ⟨bx, 1, none⟩) hbxc).trans y1.out
              have y2' := (b8.cell (p := ⟨bx, 2, none⟩) hbxc).trans y2.out
              have hbx8 := Nat.lt_of_lt_of_le hbxc b8.size
              replace hE8 := Lib.hid hE8; replace y0' := Lib.hid y0'; replace y1' := Lib.hid y1'; replace y2' := Lib.hid y2'
              clear hL hE3' b8 y0 y1 y2
              go_wp2_with (fail)
              refine hN.mono ?_
              rintro e w9 ⟨A4, n4, c4, rfl, o9⟩
              have hE9 := Lib.hid (hE8.out.keep o9.bel)
              have r0 := Lib.hid ((o9.bel.cell (p := ⟨bx, 0, none⟩) hbx8).trans y0'.out)
              have r1 := Lib.hid ((o9.bel.cell (p := ⟨bx, 1, none⟩) hbx8).trans y1'.out)
              have r2 := Lib.hid ((o9.bel.cell (p := ⟨bx, 2, none⟩) hbx8).trans y2'.out)
              have hbxR := Nat.lt_of_lt_of_le hbx8 o9.bel.size
              clear hN hE8 o9 y0' y1' y2'
              go_upto_region 32 with (fail)
              go_cut [36, 32, 37] from 38 (fun a b c wx => a = .bool false ∧ b = .int .i64 n ∧ c = .int .i64 0 ∧ Below w.heap.size w wx)
              case first =>
                as_aux_lemma =>
                  refine wp_region_any (by kernel_rfl) ?_
                  try (change wpAny _ _ _ _ _ _ _ (World.drew _))
                  have kV := Lib.hid ((Below.refl w9.heap.size w9).drew)
                  generalize w9.drew = V at *
                  refine wpAny_take (i := 0) (v := ?_) rfl (by kernel_rfl) (by kernel_rfl) (by kernel_rfl) (fun _ _ _ h => h) (Or.inl ⟨by rfl, by intro w; go_simp; first | done | with_reducible rfl⟩) ?_
                  simp only [List.getElem_toArray, List.getElem_cons_succ, List.getElem_cons_zero, Act.put, List.setIfInBounds_toArray, List.set_cons_zero, List.set_cons_succ]
                  refine wpAny_take (i := 2) (v := ?_) rfl (by kernel_rfl) (by kernel_rfl) (by kernel_rfl) (fun _ _ _ h => h) (Or.inl ⟨by rfl, by intro w; go_simp; first | done | with_reducible rfl⟩) ?_
                  simp only [List.getElem_toArray, List.getElem_cons_succ, List.getElem_cons_zero, Act.put, List.setIfInBounds_toArray, List.set_cons_zero, List.set_cons_succ]
                  refine wpAny_ready (rs := [1, 4]) (by kernel_rfl) (by simp) ?_
                  refine AllReady.cons rfl (fun K hK => ?_) ?_
                  · have hK' := hK; clear hK; have hK := hK'; clear hK'
                    go_simp
                    refine hK _ _ ?_
                    clear hK K
                    have hE1 := Lib.hid (emp_new kV.out)
                    have kV1 := Lib.hid (hE1.out.bel)
                    have hea := Lib.hid (show V.heap.size < (V.alloc (.cells #[] 40)).heap.size from by simp)
                    clear kV; have kV := kV1; clear kV1
                    generalize V.heap.size = ea at *
                    generalize V.alloc (.cells #[] 40) = V at *
                    refine wpAny_ready (rs := [3, 4]) (by kernel_rfl) (by simp) ?_
                    refine AllReady.cons rfl (fun K hK => ?_) ?_
                    · have hK' := hK; clear hK; have hK := hK'; clear hK'
                      obtain ⟨A2', c2', V, hrun, hE2, hgr⟩ := cat2 (d := c3) hE1.out (SL.keep hE9.out.es kV.out) (by omega) (by omega)
                      rw [Nat.zero_add] at hrun hE2
                      rw [List.nil_append] at hE2
                      go_simp
                      refine hK _ _ ?_
                      clear hK K
                      clear hrun
                      have kV1 := Lib.hid hE2.bel
                      replace hE2 := Lib.hid hE2
                      clear kV; have kV := kV1; clear kV1 hgr
                      refine wpAny_ready (rs := [4]) (by kernel_rfl) (by simp) ?_
                      refine AllReady.cons rfl (fun K hK => ?_) ?_
                      · have hK' := hK; clear hK; have hK := hK'; clear hK'
                        have q0 := (kV.out.cell (p := ⟨bx, 0, none⟩) hbxR).trans r0.out
                        have q1 := (kV.out.cell (p := ⟨bx, 1, none⟩) hbxR).trans r1.out
                        have q2 := (kV.out.cell (p := ⟨bx, 2, none⟩) hbxR).trans r2.out
                        go_simp
                        refine hK _ _ ?_
                        clear hK K
                        clear q0 q1 q2
                        refine wpAny_ready (rs := [5]) (by kernel_rfl) (by simp) ?_
                        refine AllReady.cons rfl (fun K hK => ?_) ?_
                        · have hK' := hK; clear hK; have hK := hK'; clear hK'
                          go_simp
                          refine hK _ _ ?_
                          clear hK K
                          have hB1 := Lib.hid (es_one V ((id : Int), (sx : Int), px))
                          have kV1 := Lib.hid (kV.out.alloc kV.out.size (.cells #[.int .i64 (id : Int), .int .i64 (sx : Int), .int .i64 px] 40))
                          have hE3 := Lib.hid (hE2.out.keep ((Below.refl V.heap.size V).alloc (Nat.le_refl _) (.cells #[.int .i64 (id : Int), .int .i64 (sx : Int), .int .i64 px] 40)))
                          clear hE2; have hE2 := hE3; clear hE3
                          have hbB := Lib.hid (show V.heap.size < (V.alloc (.cells #[.int .i64 (id : Int), .int .i64 (sx : Int), .int .i64 px] 40)).heap.size from by simp)
                          clear kV; have kV := kV1; clear kV1
                          generalize V.heap.size = bB at *
                          generalize V.alloc (.cells #[.int .i64 (id : Int), .int .i64 (sx : Int), .int .i64 px] 40) = V at *
                          refine wpAny_ready (rs := [6]) (by kernel_rfl) (by simp) ?_
                          refine AllReady.cons rfl (fun K hK => ?_) ?_
                          · have hK' := hK; clear hK; have hK := hK'; clear hK'
                            obtain ⟨A5, c5, V, hrun, hE5, hgr⟩ := cat2 (d := 1) hE2.out hB1.out (by omega) (by omega)
                            go_simp
                            refine hK _ _ ?_
                            clear hK K
                            replace hE5 := Lib.hid hE5
                            clear hgr hrun
                            refine wpAny_ready (rs := [7]) (by kernel_rfl) (by simp) ?_
                            refine AllReady.cons rfl (fun K hK => ?_) ?_
                            · have hK' := hK; clear hK; have hK := hK'; clear hK'
                              have hL := legal_any k A5 (n + 1 + 1) c5 _ V hE5.out.es (by omega)
                              rw [F4.out] at hL
                              go_simp
                              go_wp2_with (go_at_call 10; refine hL.mono ?_; rintro e V ⟨rfl, b9⟩; have kE := Lib.hid (hE5.out.bel.trans (b9.mono hE5.out.bel.size)))
                              first | (refine hK _ _ ?_; clear hK K) | skip
                              refine wpAny_take (i := 8) (v := ?_) rfl (by kernel_rfl) (by kernel_rfl) (by kernel_rfl) (fun _ _ _ h => h) (Or.inl ⟨by rfl, by intro w; go_simp; first | done | with_reducible rfl⟩) ?_
                              simp only [List.getElem_toArray, List.getElem_cons_succ, List.getElem_cons_zero, Act.put, List.setIfInBounds_toArray, List.set_cons_zero, List.set_cons_succ]
                              refine wpAny_take (i := 9) (v := ?_) rfl (by kernel_rfl) (by kernel_rfl) (by kernel_rfl) (fun _ _ _ h => h) (Or.inl ⟨by rfl, by intro w; go_simp; first | done | with_reducible rfl⟩) ?_
                              simp only [List.getElem_toArray, List.getElem_cons_succ, List.getElem_cons_zero, Act.put, List.setIfInBounds_toArray, List.set_cons_zero, List.set_cons_succ]
                              refine wpAny_take (i := 10) (v := ?_) rfl (by kernel_rfl) (by kernel_rfl) (by kernel_rfl) (fun _ _ _ h => h) (Or.inl ⟨by rfl, by intro w; go_simp; first | done | with_reducible rfl⟩) ?_
                              simp only [List.getElem_toArray, List.getElem_cons_succ, List.getElem_cons_zero, Act.put, List.setIfInBounds_toArray, List.set_cons_zero, List.set_cons_succ]
                              refine wpAny_take (i := 11) (v := ?_) rfl (by kernel_rfl) (by kernel_rfl) (by kernel_rfl) (fun _ _ _ h => h) (Or.inl ⟨by rfl, by intro w; go_simp; first | done | with_reducible rfl⟩) ?_
                              simp only [List.getElem_toArray, List.getElem_cons_succ, List.getElem_cons_zero, Act.put, List.setIfInBounds_toArray, List.set_cons_zero, List.set_cons_succ]
                              refine wpAny_take (i := 12) (v := ?_) rfl (by kernel_rfl) (by kernel_rfl) (by kernel_rfl) (fun _ _ _ h => h) (Or.inl ⟨by rfl, by intro w; go_simp; first | done | with_reducible rfl⟩) ?_
                              simp only [List.getElem_toArray, List.getElem_cons_succ, List.getElem_cons_zero, Act.put, List.setIfInBounds_toArray, List.set_cons_zero, List.set_cons_succ]
                              refine wpAny_take (i := 13) (v := ?_) rfl (by kernel_rfl) (by kernel_rfl) (by kernel_rfl) (fun _ _ _ h => h) (Or.inl ⟨by rfl, by intro w; go_simp; first | done | with_reducible rfl⟩) ?_
                              simp only [List.getElem_toArray, List.getElem_cons_succ, List.getElem_cons_zero, Act.put, List.setIfInBounds_toArray, List.set_cons_zero, List.set_cons_succ]
                              refine wpAny_take (i := 14) (v := ?_) rfl (by kernel_rfl) (by kernel_rfl) (by kernel_rfl) (fun _ _ _ h => h) (Or.inl ⟨by rfl, by intro w; go_simp; first | done | with_reducible rfl⟩) ?_
                              simp only [List.getElem_toArray, List.getElem_cons_succ, List.getElem_cons_zero, Act.put, List.setIfInBounds_toArray, List.set_cons_zero, List.set_cons_succ]
                              refine wpAny_done (by kernel_rfl) ?_ _
                              go_wp2_with (fail)
                              go_meet
                              exact ⟨rfl, rfl, rfl, hE9.out.bel.trans (kE.out.mono hE9.out.bel.size)⟩
                            exact AllReady.nil
                          exact AllReady.nil
                        exact AllReady.nil
                      exact AllReady.nil
                    refine AllReady.cons rfl (fun K hK => ?_) ?_
                    · have hK' := hK; clear hK; have hK := hK'; clear hK'
                      have q0 := (kV.out.cell (p := ⟨bx, 0, none⟩) hbxR).trans r0.out
                      have q1 := (kV.out.cell (p := ⟨bx, 1, none⟩) hbxR).trans r1.out
                      have q2 := (kV.out.cell (p := ⟨bx, 2, none⟩) hbxR).trans r2.out
                      go_simp
                      refine hK _ _ ?_
                      clear hK K
                      clear q0 q1 q2
                      refine wpAny_ready (rs := [3, 5]) (by kernel_rfl) (by simp) ?_
                      refine AllReady.cons rfl (fun K hK => ?_) ?_
                      · have hK' := hK; clear hK; have hK := hK'; clear hK'
                        obtain ⟨A2', c2', V, hrun, hE2, hgr⟩ := cat2 (d := c3) hE1.out (SL.keep hE9.out.es kV.out) (by omega) (by omega)
                        rw [Nat.zero_add] at hrun hE2
                        rw [List.nil_append] at hE2
                        go_simp
                        refine hK _ _ ?_
                        clear hK K
                        clear hrun
                        have kV1 := Lib.hid hE2.bel
                        replace hE2 := Lib.hid hE2
                        clear kV; have kV := kV1; clear kV1 hgr
                        refine wpAny_ready (rs := [5]) (by kernel_rfl) (by simp) ?_
                        refine AllReady.cons rfl (fun K hK => ?_) ?_
                        · have hK' := hK; clear hK; have hK := hK'; clear hK'
                          go_simp
                          refine hK _ _ ?_
                          clear hK K
                          have hB1 := Lib.hid (es_one V ((id : Int), (sx : Int), px))
                          have kV1 := Lib.hid (kV.out.alloc kV.out.size (.cells #[.int .i64 (id : Int), .int .i64 (sx : Int), .int .i64 px] 40))
                          have hE3 := Lib.hid (hE2.out.keep ((Below.refl V.heap.size V).alloc (Nat.le_refl _) (.cells #[.int .i64 (id : Int), .int .i64 (sx : Int), .int .i64 px] 40)))
                          clear hE2; have hE2 := hE3; clear hE3
                          have hbB := Lib.hid (show V.heap.size < (V.alloc (.cells #[.int .i64 (id : Int), .int .i64 (sx : Int), .int .i64 px] 40)).heap.size from by simp)
                          clear kV; have kV := kV1; clear kV1
                          generalize V.heap.size = bB at *
                          generalize V.alloc (.cells #[.int .i64 (id : Int), .int .i64 (sx : Int), .int .i64 px] 40) = V at *
                          refine wpAny_ready (rs := [6]) (by kernel_rfl) (by simp) ?_
                          refine AllReady.cons rfl (fun K hK => ?_) ?_
                          · have hK' := hK; clear hK; have hK := hK'; clear hK'
                            obtain ⟨A5, c5, V, hrun, hE5, hgr⟩ := cat2 (d := 1) hE2.out hB1.out (by omega) (by omega)
                            go_simp
                            refine hK _ _ ?_
                            clear hK K
                            replace hE5 := Lib.hid hE5
                            clear hgr hrun
                            refine wpAny_ready (rs := [7]) (by kernel_rfl) (by simp) ?_
                            refine AllReady.cons rfl (fun K hK => ?_) ?_
                            · have hK' := hK; clear hK; have hK := hK'; clear hK'
                              have hL := legal_any k A5 (n + 1 + 1) c5 _ V hE5.out.es (by omega)
                              rw [F4.out] at hL
                              go_simp
                              go_wp2_with (go_at_call 10; refine hL.mono ?_; rintro e V ⟨rfl, b9⟩; have kE := Lib.hid (hE5.out.bel.trans (b9.mono hE5.out.bel.size)))
                              first | (refine hK _ _ ?_; clear hK K) | skip
                              refine wpAny_take (i := 8) (v := ?_) rfl (by kernel_rfl) (by kernel_rfl) (by kernel_rfl) (fun _ _ _ h => h) (Or.inl ⟨by rfl, by intro w; go_simp; first | done | with_reducible rfl⟩) ?_
                              simp only [List.getElem_toArray, List.getElem_cons_succ, List.getElem_cons_zero, Act.put, List.setIfInBounds_toArray, List.set_cons_zero, List.set_cons_succ]
                              refine wpAny_take (i := 9) (v := ?_) rfl (by kernel_rfl) (by kernel_rfl) (by kernel_rfl) (fun _ _ _ h => h) (Or.inl ⟨by rfl, by intro w; go_simp; first | done | with_reducible rfl⟩) ?_
                              simp only [List.getElem_toArray, List.getElem_cons_succ, List.getElem_cons_zero, Act.put, List.setIfInBounds_toArray, List.set_cons_zero, List.set_cons_succ]
                              refine wpAny_take (i := 10) (v := ?_) rfl (by kernel_rfl) (by kernel_rfl) (by kernel_rfl) (fun _ _ _ h => h) (Or.inl ⟨by rfl, by intro w; go_simp; first | done | with_reducible rfl⟩) ?_
                              simp only [List.getElem_toArray, List.getElem_cons_succ, List.getElem_cons_zero, Act.put, List.setIfInBounds_toArray, List.set_cons_zero, List.set_cons_succ]
                              refine wpAny_take (i := 11) (v := ?_) rfl (by kernel_rfl) (by kernel_rfl) (by kernel_rfl) (fun _ _ _ h => h) (Or.inl ⟨by rfl, by intro w; go_simp; first | done | with_reducible rfl⟩) ?_
                              simp only [List.getElem_toArray, List.getElem_cons_succ, List.getElem_cons_zero, Act.put, List.setIfInBounds_toArray, List.set_cons_zero, List.set_cons_succ]
                              refine wpAny_take (i := 12) (v := ?_) rfl (by kernel_rfl) (by kernel_rfl) (by kernel_rfl) (fun _ _ _ h => h) (Or.inl ⟨by rfl, by intro w; go_simp; first | done | with_reducible rfl⟩) ?_
                              simp only [List.getElem_toArray, List.getElem_cons_succ, List.getElem_cons_zero, Act.put, List.setIfInBounds_toArray, List.set_cons_zero, List.set_cons_succ]
                              refine wpAny_take (i := 13) (v := ?_) rfl (by kernel_rfl) (by kernel_rfl) (by kernel_rfl) (fun _ _ _ h => h) (Or.inl ⟨by rfl, by intro w; go_simp; first | done | with_reducible rfl⟩) ?_
                              simp only [List.getElem_toArray, List.getElem_cons_succ, List.getElem_cons_zero, Act.put, List.setIfInBounds_toArray, List.set_cons_zero, List.set_cons_succ]
                              refine wpAny_take (i := 14) (v := ?_) rfl (by kernel_rfl) (by kernel_rfl) (by kernel_rfl) (fun _ _ _ h => h) (Or.inl ⟨by rfl, by intro w; go_simp; first | done | with_reducible rfl⟩) ?_
                              simp only [List.getElem_toArray, List.getElem_cons_succ, List.getElem_cons_zero, Act.put, List.setIfInBounds_toArray, List.set_cons_zero, List.set_cons_succ]
                              refine wpAny_done (by kernel_rfl) ?_ _
                              go_wp2_with (fail)
                              go_meet
                              exact ⟨rfl, rfl, rfl, hE9.out.bel.trans (kE.out.mono hE9.out.bel.size)⟩
                            exact AllReady.nil
                          exact AllReady.nil
                        exact AllReady.nil
                      refine AllReady.cons rfl (fun K hK => ?_) ?_
                      · have hK' := hK; clear hK; have hK := hK'; clear hK'
                        go_simp
                        refine hK _ _ ?_
                        clear hK K
                        have hB1 := Lib.hid (es_one V ((id : Int), (sx : Int), px))
                        have kV1 := Lib.hid (kV.out.alloc kV.out.size (.cells #[.int .i64 (id : Int), .int .i64 (sx : Int), .int .i64 px] 40))
                        have hE3 := Lib.hid (hE1.out.keep ((Below.refl V.heap.size V).alloc (Nat.le_refl _) (.cells #[.int .i64 (id : Int), .int .i64 (sx : Int), .int .i64 px] 40)))
                        have hne := Lib.hid (show ea ≠ V.heap.size from by have := hea.out; omega)
                        clear hE1; have hE1 := hE3; clear hE3
                        have hbB := Lib.hid (show V.heap.size < (V.alloc (.cells #[.int .i64 (id : Int), .int .i64 (sx : Int), .int .i64 px] 40)).heap.size from by simp)
                        clear kV; have kV := kV1; clear kV1
                        generalize V.heap.size = bB at *
                        generalize V.alloc (.cells #[.int .i64 (id : Int), .int .i64 (sx : Int), .int .i64 px] 40) = V at *
                        refine wpAny_ready (rs := [3]) (by kernel_rfl) (by simp) ?_
                        refine AllReady.cons rfl (fun K hK => ?_) ?_
                        · have hK' := hK; clear hK; have hK := hK'; clear hK'
                          obtain ⟨A2', c2', V, hrun, hE2, hgr⟩ := cat2 (d := c3) hE1.out (SL.keep hE9.out.es kV.out) (by omega) (by omega)
                          rw [Nat.zero_add] at hrun hE2
                          rw [List.nil_append] at hE2
                          go_simp
                          refine hK _ _ ?_
                          clear hK K
                          clear hrun
                          have kV1 := Lib.hid hE2.bel
                          have hB2 := Lib.hid (SL.grown hB1.out hgr (fun g e1 e2 => hne.out (by simp only [rowOf, Option.some.injEq] at e1 e2; omega)))
                          clear hB1; have hB1 := hB2; clear hB2
                          replace hE2 := Lib.hid hE2
                          clear kV; have kV := kV1; clear kV1 hgr
                          refine wpAny_ready (rs := [6]) (by kernel_rfl) (by simp) ?_
                          refine AllReady.cons rfl (fun K hK => ?_) ?_
                          · have hK' := hK; clear hK; have hK := hK'; clear hK'
                            obtain ⟨A5, c5, V, hrun, hE5, hgr⟩ := cat2 (d := 1) hE2.out hB1.out (by omega) (by omega)
                            go_simp
                            refine hK _ _ ?_
                            clear hK K
                            replace hE5 := Lib.hid hE5
                            clear hgr hrun
                            refine wpAny_ready (rs := [7]) (by kernel_rfl) (by simp) ?_
                            refine AllReady.cons rfl (fun K hK => ?_) ?_
                            · have hK' := hK; clear hK; have hK := hK'; clear hK'
                              have hL := legal_any k A5 (n + 1 + 1) c5 _ V hE5.out.es (by omega)
                              rw [F4.out] at hL
                              go_simp
                              go_wp2_with (go_at_call 10; refine hL.mono ?_; rintro e V ⟨rfl, b9⟩; have kE := Lib.hid (hE5.out.bel.trans (b9.mono hE5.out.bel.size)))
                              first | (refine hK _ _ ?_; clear hK K) | skip
                              refine wpAny_take (i := 8) (v := ?_) rfl (by kernel_rfl) (by kernel_rfl) (by kernel_rfl) (fun _ _ _ h => h) (Or.inl ⟨by rfl, by intro w; go_simp; first | done | with_reducible rfl⟩) ?_
                              simp only [List.getElem_toArray, List.getElem_cons_succ, List.getElem_cons_zero, Act.put, List.setIfInBounds_toArray, List.set_cons_zero, List.set_cons_succ]
                              refine wpAny_take (i := 9) (v := ?_) rfl (by kernel_rfl) (by kernel_rfl) (by kernel_rfl) (fun _ _ _ h => h) (Or.inl ⟨by rfl, by intro w; go_simp; first | done | with_reducible rfl⟩) ?_
                              simp only [List.getElem_toArray, List.getElem_cons_succ, List.getElem_cons_zero, Act.put, List.setIfInBounds_toArray, List.set_cons_zero, List.set_cons_succ]
                              refine wpAny_take (i := 10) (v := ?_) rfl (by kernel_rfl) (by kernel_rfl) (by kernel_rfl) (fun _ _ _ h => h) (Or.inl ⟨by rfl, by intro w; go_simp; first | done | with_reducible rfl⟩) ?_
                              simp only [List.getElem_toArray, List.getElem_cons_succ, List.getElem_cons_zero, Act.put, List.setIfInBounds_toArray, List.set_cons_zero, List.set_cons_succ]
                              refine wpAny_take (i := 11) (v := ?_) rfl (by kernel_rfl) (by kernel_rfl) (by kernel_rfl) (fun _ _ _ h => h) (Or.inl ⟨by rfl, by intro w; go_simp; first | done | with_reducible rfl⟩) ?_
                              simp only [List.getElem_toArray, List.getElem_cons_succ, List.getElem_cons_zero, Act.put, List.setIfInBounds_toArray, List.set_cons_zero, List.set_cons_succ]
                              refine wpAny_take (i := 12) (v := ?_) rfl (by kernel_rfl) (by kernel_rfl) (by kernel_rfl) (fun _ _ _ h => h) (Or.inl ⟨by rfl, by intro w; go_simp; first | done | with_reducible rfl⟩) ?_
                              simp only [List.getElem_toArray, List.getElem_cons_succ, List.getElem_cons_zero, Act.put, List.setIfInBounds_toArray, List.set_cons_zero, List.set_cons_succ]
                              refine wpAny_take (i := 13) (v := ?_) rfl (by kernel_rfl) (by kernel_rfl) (by kernel_rfl) (fun _ _ _ h => h) (Or.inl ⟨by rfl, by intro w; go_simp; first | done | with_reducible rfl⟩) ?_
                              simp only [List.getElem_toArray, List.getElem_cons_succ, List.getElem_cons_zero, Act.put, List.setIfInBounds_toArray, List.set_cons_zero, List.set_cons_succ]
                              refine wpAny_take (i := 14) (v := ?_) rfl (by kernel_rfl) (by kernel_rfl) (by kernel_rfl) (fun _ _ _ h => h) (Or.inl ⟨by rfl, by intro w; go_simp; first | done | with_reducible rfl⟩) ?_
                              simp only [List.getElem_toArray, List.getElem_cons_succ, List.getElem_cons_zero, Act.put, List.setIfInBounds_toArray, List.set_cons_zero, List.set_cons_succ]
                              refine wpAny_done (by kernel_rfl) ?_ _
                              go_wp2_with (fail)
                              go_meet
                              exact ⟨rfl, rfl, rfl, hE9.out.bel.trans (kE.out.mono hE9.out.bel.size)⟩
                            exact AllReady.nil
                          exact AllReady.nil
                        exact AllReady.nil
                      exact AllReady.nil
                    exact AllReady.nil
                  refine AllReady.cons rfl (fun K hK => ?_) ?_
                  · have hK' := hK; clear hK; have hK := hK'; clear hK'
                    have q0 := (kV.out.cell (p := ⟨bx, 0, none⟩) hbxR).trans r0.out
                    have q1 := (kV.out.cell (p := ⟨bx, 1, none⟩) hbxR).trans r1.out
                    have q2 := (kV.out.cell (p := ⟨bx, 2, none⟩) hbxR).trans r2.out
                    go_simp
                    refine hK _ _ ?_
                    clear hK K
                    clear q0 q1 q2
                    refine wpAny_ready (rs := [1, 5]) (by kernel_rfl) (by simp) ?_
                    refine AllReady.cons rfl (fun K hK => ?_) ?_
                    · have hK' := hK; clear hK; have hK := hK'; clear hK'
                      go_simp
                      refine hK _ _ ?_
                      clear hK K
                      have hE1 := Lib.hid (emp_new kV.out)
                      have kV1 := Lib.hid (hE1.out.bel)
                      have hea := Lib.hid (show V.heap.size < (V.alloc (.cells #[] 40)).heap.size from by simp)
                      clear kV; have kV := kV1; clear kV1
                      generalize V.heap.size = ea at *
                      generalize V.alloc (.cells #[] 40) = V at *
                      refine wpAny_ready (rs := [3, 5]) (by kernel_rfl) (by simp) ?_
                      refine AllReady.cons rfl (fun K hK => ?_) ?_
                      · have hK' := hK; clear hK; have hK := hK'; clear hK'
                        obtain ⟨A2', c2', V, hrun, hE2, hgr⟩ := cat2 (d := c3) hE1.out (SL.keep hE9.out.es kV.out) (by omega) (by omega)
                        rw [Nat.zero_add] at hrun hE2
                        rw [List.nil_append] at hE2
                        go_simp
                        refine hK _ _ ?_
                        clear hK K
                        clear hrun
                        have kV1 := Lib.hid hE2.bel
                        replace hE2 := Lib.hid hE2
                        clear kV; have kV := kV1; clear kV1 hgr
                        refine wpAny_ready (rs := [5]) (by kernel_rfl) (by simp) ?_
                        refine AllReady.cons rfl (fun K hK => ?_) ?_
                        · have hK' := hK; clear hK; have hK := hK'; clear hK'
                          go_simp
                          refine hK _ _ ?_
                          clear hK K
                          have hB1 := Lib.hid (es_one V ((id : Int), (sx : Int), px))
                          have kV1 := Lib.hid (kV.out.alloc kV.out.size (.cells #[.int .i64 (id : Int), .int .i64 (sx : Int), .int .i64 px] 40))
                          have hE3 := Lib.hid (hE2.out.keep ((Below.refl V.heap.size V).alloc (Nat.le_refl _) (.cells #[.int .i64 (id : Int), .int .i64 (sx : Int), .int .i64 px] 40)))
                          clear hE2; have hE2 := hE3; clear hE3
                          have hbB := Lib.hid (show V.heap.size < (V.alloc (.cells #[.int .i64 (id : Int), .int .i64 (sx : Int), .int .i64 px] 40)).heap.size from by simp)
                          clear kV; have kV := kV1; clear kV1
                          generalize V.heap.size = bB at *
                          generalize V.alloc (.cells #[.int .i64 (id : Int), .int .i64 (sx : Int), .int .i64 px] 40) = V at *
                          refine wpAny_ready (rs := [6]) (by kernel_rfl) (by simp) ?_
                          refine AllReady.cons rfl (fun K hK => ?_) ?_
                          · have hK' := hK; clear hK; have hK := hK'; clear hK'
                            obtain ⟨A5, c5, V, hrun, hE5, hgr⟩ := cat2 (d := 1) hE2.out hB1.out (by omega) (by omega)
                            go_simp
                            refine hK _ _ ?_
                            clear hK K
                            replace hE5 := Lib.hid hE5
                            clear hgr hrun
                            refine wpAny_ready (rs := [7]) (by kernel_rfl) (by simp) ?_
                            refine AllReady.cons rfl (fun K hK => ?_) ?_
                            · have hK' := hK; clear hK; have hK := hK'; clear hK'
                              have hL := legal_any k A5 (n + 1 + 1) c5 _ V hE5.out.es (by omega)
                              rw [F4.out] at hL
                              go_simp
                              go_wp2_with (go_at_call 10; refine hL.mono ?_; rintro e V ⟨rfl, b9⟩; have kE := Lib.hid (hE5.out.bel.trans (b9.mono hE5.out.bel.size)))
                              first | (refine hK _ _ ?_; clear hK K) | skip
                              refine wpAny_take (i := 8) (v := ?_) rfl (by kernel_rfl) (by kernel_rfl) (by kernel_rfl) (fun _ _ _ h => h) (Or.inl ⟨by rfl, by intro w; go_simp; first | done | with_reducible rfl⟩) ?_
                              simp only [List.getElem_toArray, List.getElem_cons_succ, List.getElem_cons_zero, Act.put, List.setIfInBounds_toArray, List.set_cons_zero, List.set_cons_succ]
                              refine wpAny_take (i := 9) (v := ?_) rfl (by kernel_rfl) (by kernel_rfl) (by kernel_rfl) (fun _ _ _ h => h) (Or.inl ⟨by rfl, by intro w; go_simp; first | done | with_reducible rfl⟩) ?_
                              simp only [List.getElem_toArray, List.getElem_cons_succ, List.getElem_cons_zero, Act.put, List.setIfInBounds_toArray, List.set_cons_zero, List.set_cons_succ]
                              refine wpAny_take (i := 10) (v := ?_) rfl (by kernel_rfl) (by kernel_rfl) (by kernel_rfl) (fun _ _ _ h => h) (Or.inl ⟨by rfl, by intro w; go_simp; first | done | with_reducible rfl⟩) ?_
                              simp only [List.getElem_toArray, List.getElem_cons_succ, List.getElem_cons_zero, Act.put, List.setIfInBounds_toArray, List.set_cons_zero, List.set_cons_succ]
                              refine wpAny_take (i := 11) (v := ?_) rfl (by kernel_rfl) (by kernel_rfl) (by kernel_rfl) (fun _ _ _ h => h) (Or.inl ⟨by rfl, by intro w; go_simp; first | done | with_reducible rfl⟩) ?_
                              simp only [List.getElem_toArray, List.getElem_cons_succ, List.getElem_cons_zero, Act.put, List.setIfInBounds_toArray, List.set_cons_zero, List.set_cons_succ]
                              refine wpAny_take (i := 12) (v := ?_) rfl (by kernel_rfl) (by kernel_rfl) (by kernel_rfl) (fun _ _ _ h => h) (Or.inl ⟨by rfl, by intro w; go_simp; first | done | with_reducible rfl⟩) ?_
                              simp only [List.getElem_toArray, List.getElem_cons_succ, List.getElem_cons_zero, Act.put, List.setIfInBounds_toArray, List.set_cons_zero, List.set_cons_succ]
                              refine wpAny_take (i := 13) (v := ?_) rfl (by kernel_rfl) (by kernel_rfl) (by kernel_rfl) (fun _ _ _ h => h) (Or.inl ⟨by rfl, by intro w; go_simp; first | done | with_reducible rfl⟩) ?_
                              simp only [List.getElem_toArray, List.getElem_cons_succ, List.getElem_cons_zero, Act.put, List.setIfInBounds_toArray, List.set_cons_zero, List.set_cons_succ]
                              refine wpAny_take (i := 14) (v := ?_) rfl (by kernel_rfl) (by kernel_rfl) (by kernel_rfl) (fun _ _ _ h => h) (Or.inl ⟨by rfl, by intro w; go_simp; first | done | with_reducible rfl⟩) ?_
                              simp only [List.getElem_toArray, List.getElem_cons_succ, List.getElem_cons_zero, Act.put, List.setIfInBounds_toArray, List.set_cons_zero, List.set_cons_succ]
                              refine wpAny_done (by kernel_rfl) ?_ _
                              go_wp2_with (fail)
                              go_meet
                              exact ⟨rfl, rfl, rfl, hE9.out.bel.trans (kE.out.mono hE9.out.bel.size)⟩
                            exact AllReady.nil
                          exact AllReady.nil
                        exact AllReady.nil
                      refine AllReady.cons rfl (fun K hK => ?_) ?_
                      · have hK' := hK; clear hK; have hK := hK'; clear hK'
                        go_simp
                        refine hK _ _ ?_
                        clear hK K
                        have hB1 := Lib.hid (es_one V ((id : Int), (sx : Int), px))
                        have kV1 := Lib.hid (kV.out.alloc kV.out.size (.cells #[.int .i64 (id : Int), .int .i64 (sx : Int), .int .i64 px] 40))
                        have hE3 := Lib.hid (hE1.out.keep ((Below.refl V.heap.size V).alloc (Nat.le_refl _) (.cells #[.int .i64 (id : Int), .int .i64 (sx : Int), .int .i64 px] 40)))
                        have hne := Lib.hid (show ea ≠ V.heap.size from by have := hea.out; omega)
                        clear hE1; have hE1 := hE3; clear hE3
                        have hbB := Lib.hid (show V.heap.size < (V.alloc (.cells #[.int .i64 (id : Int), .int .i64 (sx : Int), .int .i64 px] 40)).heap.size from by simp)
                        clear kV; have kV := kV1; clear kV1
                        generalize V.heap.size = bB at *
                        generalize V.alloc (.cells #[.int .i64 (id : Int), .int .i64 (sx : Int), .int .i64 px] 40) = V at *
                        refine wpAny_ready (rs := [3]) (by kernel_rfl) (by simp) ?_
                        refine AllReady.cons rfl (fun K hK => ?_) ?_
                        · have hK' := hK; clear hK; have hK := hK'; clear hK'
                          obtain ⟨A2', c2', V, hrun, hE2, hgr⟩ := cat2 (d := c3) hE1.out (SL.keep hE9.out.es kV.out) (by omega) (by omega)
                          rw [Nat.zero_add] at hrun hE2
                          rw [List.nil_append] at hE2
                          go_simp
                          refine hK _ _ ?_
                          clear hK K
                          clear hrun
                          have kV1 := Lib.hid hE2.bel
                          have hB2 := Lib.hid (SL.grown hB1.out hgr (fun g e1 e2 => hne.out (by simp only [rowOf, Option.some.injEq] at e1 e2; omega)))
                          clear hB1; have hB1 := hB2; clear hB2
                          replace hE2 := Lib.hid hE2
                          clear kV; have kV := kV1; clear kV1 hgr
                          refine wpAny_ready (rs := [6]) (by kernel_rfl) (by simp) ?_
                          refine AllReady.cons rfl (fun K hK => ?_) ?_
                          · have hK' := hK; clear hK; have hK := hK'; clear hK'
                            obtain ⟨A5, c5, V, hrun, hE5, hgr⟩ := cat2 (d := 1) hE2.out hB1.out (by omega) (by omega)
                            go_simp
                            refine hK _ _ ?_
                            clear hK K
                            replace hE5 := Lib.hid hE5
                            clear hgr hrun
                            refine wpAny_ready (rs := [7]) (by kernel_rfl) (by simp) ?_
                            refine AllReady.cons rfl (fun K hK => ?_) ?_
                            · have hK' := hK; clear hK; have hK := hK'; clear hK'
                              have hL := legal_any k A5 (n + 1 + 1) c5 _ V hE5.out.es (by omega)
                              rw [F4.out] at hL
                              go_simp
                              go_wp2_with (go_at_call 10; refine hL.mono ?_; rintro e V ⟨rfl, b9⟩; have kE := Lib.hid (hE5.out.bel.trans (b9.mono hE5.out.bel.size)))
                              first | (refine hK _ _ ?_; clear hK K) | skip
                              refine wpAny_take (i := 8) (v := ?_) rfl (by kernel_rfl) (by kernel_rfl) (by kernel_rfl) (fun _ _ _ h => h) (Or.inl ⟨by rfl, by intro w; go_simp; first | done | with_reducible rfl⟩) ?_
                              simp only [List.getElem_toArray, List.getElem_cons_succ, List.getElem_cons_zero, Act.put, List.setIfInBounds_toArray, List.set_cons_zero, List.set_cons_succ]
                              refine wpAny_take (i := 9) (v := ?_) rfl (by kernel_rfl) (by kernel_rfl) (by kernel_rfl) (fun _ _ _ h => h) (Or.inl ⟨by rfl, by intro w; go_simp; first | done | with_reducible rfl⟩) ?_
                              simp only [List.getElem_toArray, List.getElem_cons_succ, List.getElem_cons_zero, Act.put, List.setIfInBounds_toArray, List.set_cons_zero, List.set_cons_succ]
                              refine wpAny_take (i := 10) (v := ?_) rfl (by kernel_rfl) (by kernel_rfl) (by kernel_rfl) (fun _ _ _ h => h) (Or.inl ⟨by rfl, by intro w; go_simp; first | done | with_reducible rfl⟩) ?_
                              simp only [List.getElem_toArray, List.getElem_cons_succ, List.getElem_cons_zero, Act.put, List.setIfInBounds_toArray, List.set_cons_zero, List.set_cons_succ]
                              refine wpAny_take (i := 11) (v := ?_) rfl (by kernel_rfl) (by kernel_rfl) (by kernel_rfl) (fun _ _ _ h => h) (Or.inl ⟨by rfl, by intro w; go_simp; first | done | with_reducible rfl⟩) ?_
                              simp only [List.getElem_toArray, List.getElem_cons_succ, List.getElem_cons_zero, Act.put, List.setIfInBounds_toArray, List.set_cons_zero, List.set_cons_succ]
                              refine wpAny_take (i := 12) (v := ?_) rfl (by kernel_rfl) (by kernel_rfl) (by kernel_rfl) (fun _ _ _ h => h) (Or.inl ⟨by rfl, by intro w; go_simp; first | done | with_reducible rfl⟩) ?_
                              simp only [List.getElem_toArray, List.getElem_cons_succ, List.getElem_cons_zero, Act.put, List.setIfInBounds_toArray, List.set_cons_zero, List.set_cons_succ]
                              refine wpAny_take (i := 13) (v := ?_) rfl (by kernel_rfl) (by kernel_rfl) (by kernel_rfl) (fun _ _ _ h => h) (Or.inl ⟨by rfl, by intro w; go_simp; first | done | with_reducible rfl⟩) ?_
                              simp only [List.getElem_toArray, List.getElem_cons_succ, List.getElem_cons_zero, Act.put, List.setIfInBounds_toArray, List.set_cons_zero, List.set_cons_succ]
                              refine wpAny_take (i := 14) (v := ?_) rfl (by kernel_rfl) (by kernel_rfl) (by kernel_rfl) (fun _ _ _ h => h) (Or.inl ⟨by rfl, by intro w; go_simp; first | done | with_reducible rfl⟩) ?_
                              simp only [List.getElem_toArray, List.getElem_cons_succ, List.getElem_cons_zero, Act.put, List.setIfInBounds_toArray, List.set_cons_zero, List.set_cons_succ]
                              refine wpAny_done (by kernel_rfl) ?_ _
                              go_wp2_with (fail)
                              go_meet
                              exact ⟨rfl, rfl, rfl, hE9.out.bel.trans (kE.out.mono hE9.out.bel.size)⟩
                            exact AllReady.nil
                          exact AllReady.nil
                        exact AllReady.nil
                      exact AllReady.nil
                    refine AllReady.cons rfl (fun K hK => ?_) ?_
                    · have hK' := hK; clear hK; have hK := hK'; clear hK'
                      go_simp
                      refine hK _ _ ?_
                      clear hK K
                      have hB1 := Lib.hid (es_one V ((id : Int), (sx : Int), px))
                      have kV1 := Lib.hid (kV.out.alloc kV.out.size (.cells #[.int .i64 (id : Int), .int .i64 (sx : Int), .int .i64 px] 40))
                      have hbB := Lib.hid (show V.heap.size < (V.alloc (.cells #[.int .i64 (id : Int), .int .i64 (sx : Int), .int .i64 px] 40)).heap.size from by simp)
                      clear kV; have kV := kV1; clear kV1
                      generalize V.heap.size = bB at *
                      generalize V.alloc (.cells #[.int .i64 (id : Int), .int .i64 (sx : Int), .int .i64 px] 40) = V at *
                      refine wpAny_ready (rs := [1]) (by kernel_rfl) (by simp) ?_
                      refine AllReady.cons rfl (fun K hK => ?_) ?_
                      · have hK' := hK; clear hK; have hK := hK'; clear hK'
                        go_simp
                        refine hK _ _ ?_
                        clear hK K
                        have hE1 := Lib.hid (emp_new kV.out)
                        have kV1 := Lib.hid (hE1.out.bel)
                        have hB2 := Lib.hid (SL.keep hB1.out ((Below.refl V.heap.size V).alloc (Nat.le_refl _) (.cells #[] 40)))
                        have hne := Lib.hid (show V.heap.size ≠ bB from by have := hbB.out; omega)
                        clear hB1; have hB1 := hB2; clear hB2
                        have hea := Lib.hid (show V.heap.size < (V.alloc (.cells #[] 40)).heap.size from by simp)
                        clear kV; have kV := kV1; clear kV1
                        generalize V.heap.size = ea at *
                        generalize V.alloc (.cells #[] 40) = V at *
                        refine wpAny_ready (rs := [3]) (by kernel_rfl) (by simp) ?_
                        refine AllReady.cons rfl (fun K hK => ?_) ?_
                        · have hK' := hK; clear hK; have hK := hK'; clear hK'
                          obtain ⟨A2', c2', V, hrun, hE2, hgr⟩ := cat2 (d := c3) hE1.out (SL.keep hE9.out.es kV.out) (by omega) (by omega)
                          rw [Nat.zero_add] at hrun hE2
                          rw [List.nil_append] at hE2
                          go_simp
                          refine hK _ _ ?_
                          clear hK K
                          clear hrun
                          have kV1 := Lib.hid hE2.bel
                          have hB2 := Lib.hid (SL.grown hB1.out hgr (fun g e1 e2 => hne.out (by simp only [rowOf, Option.some.injEq] at e1 e2; omega)))
                          clear hB1; have hB1 := hB2; clear hB2
                          replace hE2 := Lib.hid hE2
                          clear kV; have kV := kV1; clear kV1 hgr
                          refine wpAny_ready (rs := [6]) (by kernel_rfl) (by simp) ?_
                          refine AllReady.cons rfl (fun K hK => ?_) ?_
                          · have hK' := hK; clear hK; have hK := hK'; clear hK'
                            obtain ⟨A5, c5, V, hrun, hE5, hgr⟩ := cat2 (d := 1) hE2.out hB1.out (by omega) (by omega)
                            go_simp
                            refine hK _ _ ?_
                            clear hK K
                            replace hE5 := Lib.hid hE5
                            clear hgr hrun
                            refine wpAny_ready (rs := [7]) (by kernel_rfl) (by simp) ?_
                            refine AllReady.cons rfl (fun K hK => ?_) ?_
                            · have hK' := hK; clear hK; have hK := hK'; clear hK'
                              have hL := legal_any k A5 (n + 1 + 1) c5 _ V hE5.out.es (by omega)
                              rw [F4.out] at hL
                              go_simp
                              go_wp2_with (go_at_call 10; refine hL.mono ?_; rintro e V ⟨rfl, b9⟩; have kE := Lib.hid (hE5.out.bel.trans (b9.mono hE5.out.bel.size)))
                              first | (refine hK _ _ ?_; clear hK K) | skip
                              refine wpAny_take (i := 8) (v := ?_) rfl (by kernel_rfl) (by kernel_rfl) (by kernel_rfl) (fun _ _ _ h => h) (Or.inl ⟨by rfl, by intro w; go_simp; first | done | with_reducible rfl⟩) ?_
                              simp only [List.getElem_toArray, List.getElem_cons_succ, List.getElem_cons_zero, Act.put, List.setIfInBounds_toArray, List.set_cons_zero, List.set_cons_succ]
                              refine wpAny_take (i := 9) (v := ?_) rfl (by kernel_rfl) (by kernel_rfl) (by kernel_rfl) (fun _ _ _ h => h) (Or.inl ⟨by rfl, by intro w; go_simp; first | done | with_reducible rfl⟩) ?_
                              simp only [List.getElem_toArray, List.getElem_cons_succ, List.getElem_cons_zero, Act.put, List.setIfInBounds_toArray, List.set_cons_zero, List.set_cons_succ]
                              refine wpAny_take (i := 10) (v := ?_) rfl (by kernel_rfl) (by kernel_rfl) (by kernel_rfl) (fun _ _ _ h => h) (Or.inl ⟨by rfl, by intro w; go_simp; first | done | with_reducible rfl⟩) ?_
                              simp only [List.getElem_toArray, List.getElem_cons_succ, List.getElem_cons_zero, Act.put, List.setIfInBounds_toArray, List.set_cons_zero, List.set_cons_succ]
                              refine wpAny_take (i := 11) (v := ?_) rfl (by kernel_rfl) (by kernel_rfl) (by kernel_rfl) (fun _ _ _ h => h) (Or.inl ⟨by rfl, by intro w; go_simp; first | done | with_reducible rfl⟩) ?_
                              simp only [List.getElem_toArray, List.getElem_cons_succ, List.getElem_cons_zero, Act.put, List.setIfInBounds_toArray, List.set_cons_zero, List.set_cons_succ]
                              refine wpAny_take (i := 12) (v := ?_) rfl (by kernel_rfl) (by kernel_rfl) (by kernel_rfl) (fun _ _ _ h => h) (Or.inl ⟨by rfl, by intro w; go_simp; first | done | with_reducible rfl⟩) ?_
                              simp only [List.getElem_toArray, List.getElem_cons_succ, List.getElem_cons_zero, Act.put, List.setIfInBounds_toArray, List.set_cons_zero, List.set_cons_succ]
                              refine wpAny_take (i := 13) (v := ?_) rfl (by kernel_rfl) (by kernel_rfl) (by kernel_rfl) (fun _ _ _ h => h) (Or.inl ⟨by rfl, by intro w; go_simp; first | done | with_reducible rfl⟩) ?_
                              simp only [List.getElem_toArray, List.getElem_cons_succ, List.getElem_cons_zero, Act.put, List.setIfInBounds_toArray, List.set_cons_zero, List.set_cons_succ]
                              refine wpAny_take (i := 14) (v := ?_) rfl (by kernel_rfl) (by kernel_rfl) (by kernel_rfl) (fun _ _ _ h => h) (Or.inl ⟨by rfl, by intro w; go_simp; first | done | with_reducible rfl⟩) ?_
                              simp only [List.getElem_toArray, List.getElem_cons_succ, List.getElem_cons_zero, Act.put, List.setIfInBounds_toArray, List.set_cons_zero, List.set_cons_succ]
                              refine wpAny_done (by kernel_rfl) ?_ _
                              go_wp2_with (fail)
                              go_meet
                              exact ⟨rfl, rfl, rfl, hE9.out.bel.trans (kE.out.mono hE9.out.bel.size)⟩
                            exact AllReady.nil
                          exact AllReady.nil
                        exact AllReady.nil
                      exact AllReady.nil
                    exact AllReady.nil
                  exact AllReady.nil
              case rest =>
                obtain ⟨rfl, rfl, rfl, hb10⟩ := hcut
                replace hb10 := Lib.hid hb10
                go_wp2_with (fail)
                refine (works_any wc).mono ?_
                rintro e w11 ⟨rfl, b11⟩
                go_wp2_with (fail)
                go_ret
                exact ⟨rfl, hb10.out.trans (b11.mono hb10.out.size)⟩
end Go.Proofs.Ythmkfbabacehnaa
