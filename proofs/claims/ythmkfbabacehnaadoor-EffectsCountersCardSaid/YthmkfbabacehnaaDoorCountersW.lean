/- EffectsCounters' walk. -/
import Derived.Test.YthmkfbabacehnaaDoorShortD
import Derived.Test.YthmkfbabacehnaaDoorOpenDf
import Derived.Test.YthmkfbabacehnaaDoorEndsP
import Derived.Test.YthmkfbabacehnaaDoorAll
import Derived.Test.YthmkfbabacehnaaDoorRHeldD
import Derived.Test.YthmkfbabacehnaaDoorCntP
namespace Go.Proofs.YthmkfbabacehnaaDoor
open Go.RowKit Go.Shelf
set_option linter.unusedSimpArgs false
set_option linter.unusedVariables false
set_option linter.unusedSectionVars false
set_option maxRecDepth 10000
theorem seqs_end {k i : Nat} {x : Int × List Ef} (h : (seqs 1 k)[i]? = some x) : x.1 = if i ≤ k then 5 else 4 := by
  unfold seqs at h
  have hl : ((List.range (k + 1)).map fun j => ((5 : Int), seqA 1 j)).length = k + 1 := by simp
  by_cases hi : i ≤ k
  · rw [List.getElem?_append_left (by omega), List.getElem?_map] at h
    obtain ⟨j, _, rfl⟩ := Option.map_eq_some_iff.1 h
    rw [if_pos hi]
  · rw [List.getElem?_append_right (by omega), hl] at h
    have : i - (k + 1) = 0 := by
      rcases Nat.eq_zero_or_pos (i - (k + 1)) with q | q
      · exact q
      · rw [List.getElem?_eq_none (by simp; omega)] at h; cases h
    rw [this] at h
    simp only [List.getElem?_cons_zero, Option.some.injEq] at h
    rw [← h, if_neg hi]
theorem allS_ok' {k : Nat} (hk : 1 ≤ k ∧ k ≤ 8) : allS (k : Int) = ((seqs 1 k).map (·.2), 0) := by
  unfold allS
  rw [if_pos (by simp [okN]; omega)]
  simp
theorem neg_sum {s : Int} (h : s ≠ 0) : (-s != 0) = true := by simp; exact h
attribute [-go_sem] sliced
set_option maxHeartbeats 16000000 in
theorem counters_walk (nm : ByteArray) (r dl : Int) (A : Option Addr) (n c : Nat) (ss : List St) (wh upn : Nat) (hwh : wh < 256) (hupn : upn < 256) (w : World) (hD : IsDef w nm A n c ss) (hL : LdA w) (hH : LdH w) :
    Calls Tryd.prog 5 #[.agg #[.string nm, .int .i64 r, .int .i64 dl, .slice A n c], .int .u8 wh, .int .u8 upn] w fun e w' => e = .returned (.bool true) ∧ Below w.heap.size w w' := by
  have kb := (Below.refl w.heap.size w).alloc (Nat.le_refl _) (.cells #[.string nm, .int .i64 r, .int .i64 dl, .slice A n c] 24)
  have hnew := hpNew w (.cells #[.string nm, .int .i64 r, .int .i64 dl, .slice A n c] 24)
  have hs := short_any nm r dl A n c ss (w.alloc (.cells #[.string nm, .int .i64 r, .int .i64 dl, .slice A n c] 24)) (SL.keep hD.ss kb)
  have hlen := hD.ss.1
  have n0i : (0 : Int) ≤ n := by omega
  cases hsB : shortB nm ss with
  | false =>
    rw [hsB] at hs
    clear hsB
    replace hD := Lib.hid hD; replace kb := Lib.hid kb; replace hnew := Lib.hid hnew; replace hL := Lib.hid hL; replace hH := Lib.hid hH
    go_enter Tryd.func5, Tryd.ntmps5
    go_wp2_with (fail)
    refine (hs).mono ?_
    rintro e w1 ⟨rfl, b1⟩
    have hd1 := (b1.block _ (by simp)).trans hnew.out
    have x0 := blkC hd1 0
    have x1 := blkC hd1 1
    have x2 := blkC hd1 2
    have x3 := blkC hd1 3
    simp only [List.getElem?_toArray, List.getElem?_cons_zero, List.getElem?_cons_succ] at x0 x1 x2 x3
    have hb1 := Lib.hid (kb.out.trans (b1.mono kb.out.size))
    replace hd1 := Lib.hid hd1
    clear b1
    go_wp2_with (fail)
    refine (works_any _).mono ?_
    rintro e w19 ⟨rfl, b19⟩
    go_wp2_with (fail)
    go_ret
    exact ⟨rfl, hb1.out.trans (b19.mono hb1.out.size)⟩
  | true =>
    rw [hsB] at hs
    have hn20 : n ≤ 20 := by
      simp only [shortB, Bool.and_eq_true, decide_eq_true_eq] at hsB
      omega
    clear hsB
    by_cases n1 : n < 1
    · have n1i : (n : Int) < 1 := by omega
      replace hD := Lib.hid hD; replace kb := Lib.hid kb; replace hnew := Lib.hid hnew; replace hL := Lib.hid hL; replace hH := Lib.hid hH
      go_enter Tryd.func5, Tryd.ntmps5
      go_wp2_with (fail)
      refine (hs).mono ?_
      rintro e w1 ⟨rfl, b1⟩
      have hd1 := (b1.block _ (by simp)).trans hnew.out
      have x0 := blkC hd1 0
      have x1 := blkC hd1 1
      have x2 := blkC hd1 2
      have x3 := blkC hd1 3
      simp only [List.getElem?_toArray, List.getElem?_cons_zero, List.getElem?_cons_succ] at x0 x1 x2 x3
      have hb1 := Lib.hid (kb.out.trans (b1.mono kb.out.size))
      replace hd1 := Lib.hid hd1
      clear b1
      go_wp2_with (fail)
      refine (works_any _).mono ?_
      rintro e w19 ⟨rfl, b19⟩
      go_wp2_with (fail)
      go_ret
      exact ⟨rfl, hb1.out.trans (b19.mono hb1.out.size)⟩
    · have n1i : ¬ (n : Int) < 1 := by omega
      by_cases n8 : 8 < n
      · have n8i : (8 : Int) < n := by omega
        replace hD := Lib.hid hD; replace kb := Lib.hid kb; replace hnew := Lib.hid hnew; replace hL := Lib.hid hL; replace hH := Lib.hid hH
        go_enter Tryd.func5, Tryd.ntmps5
        go_wp2_with (fail)
        refine (hs).mono ?_
        rintro e w1 ⟨rfl, b1⟩
        have hd1 := (b1.block _ (by simp)).trans hnew.out
        have x0 := blkC hd1 0
        have x1 := blkC hd1 1
        have x2 := blkC hd1 2
        have x3 := blkC hd1 3
        simp only [List.getElem?_toArray, List.getElem?_cons_zero, List.getElem?_cons_succ] at x0 x1 x2 x3
        have hb1 := Lib.hid (kb.out.trans (b1.mono kb.out.size))
        replace hd1 := Lib.hid hd1
        clear b1
        go_wp2_with (fail)
        refine (works_any _).mono ?_
        rintro e w19 ⟨rfl, b19⟩
        go_wp2_with (fail)
        go_ret
        exact ⟨rfl, hb1.out.trans (b19.mono hb1.out.size)⟩
      · have n8i : ¬ (8 : Int) < n := by omega
        have hk8 : 1 ≤ n ∧ n ≤ 8 := by omega
        have hall := allS_ok' hk8
        obtain ⟨q, hq⟩ : ∃ q : Nat, q = wh % (n + 2) := ⟨_, rfl⟩
        have hqi : (wh : Int) % ((n : Int) + 2) = (q : Int) := by rw [hq, Int.natCast_emod, Int.natCast_add]; rfl
        have hqlt : q < n + 2 := by rw [hq]; exact Nat.mod_lt _ (by omega)
        replace hq := Lib.hid hq; replace hlen := Lib.hid hlen
        replace hD := Lib.hid hD; replace kb := Lib.hid kb; replace hnew := Lib.hid hnew; replace hL := Lib.hid hL; replace hH := Lib.hid hH
        go_enter Tryd.func5, Tryd.ntmps5
        go_wp2_with (fail)
        refine (hs).mono ?_
        rintro e w1 ⟨rfl, b1⟩
        have hd1 := (b1.block _ (by simp)).trans hnew.out
        have x0 := blkC hd1 0
        have x1 := blkC hd1 1
        have x2 := blkC hd1 2
        have x3 := blkC hd1 3
        simp only [List.getElem?_toArray, List.getElem?_cons_zero, List.getElem?_cons_succ] at x0 x1 x2 x3
        have hb1 := Lib.hid (kb.out.trans (b1.mono kb.out.size))
        replace hd1 := Lib.hid hd1
        clear b1
        clear hs
        go_wp2_with (fail)
        refine (all_any n w1).mono ?_
        rintro e w2 ⟨A1, n1, c1, xs, rfl, o1⟩
        rw [hall] at o1 ⊢
        have b2 := o1.bel
        have hn1 : n1 = n + 2 := by have := o1.two; simpa [seqs] using this.symm
        subst hn1
        clear x0 x1 x2 x3
        have hd2 := (b2.block _ (blkX hd1.out)).trans hd1.out
        have x0 := blkC hd2 0
        have x1 := blkC hd2 1
        have x2 := blkC hd2 2
        have x3 := blkC hd2 3
        simp only [List.getElem?_toArray, List.getElem?_cons_zero, List.getElem?_cons_succ] at x0 x1 x2 x3
        have hb2 := Lib.hid (hb1.out.trans (b2.mono hb1.out.size))
        replace hd2 := Lib.hid hd2
        clear b2
        obtain ⟨ab, ao, B, m, d, l, rfl, habl, f1, g1, q1⟩ := o1.at_ hqlt
        rw [List.getElem?_map] at g1
        obtain ⟨mm, hmm, hml⟩ := Option.map_eq_some_iff.1 g1
        have hend := seqs_end hmm
        obtain ⟨we, _, _, _⟩ := endAt_iff (ends_at hk8 hmm)
        rw [hml] at we
        obtain ⟨ed, hed⟩ : ∃ ed : Int, ed = if q ≤ n then 5 else 4 := ⟨_, rfl⟩
        rw [← hed] at we hend
        replace hed := Lib.hid hed
        have hmem : mm ∈ seqs 1 n := List.mem_of_getElem? hmm
        have hl16 : m ≤ 16 := by have := (cnt_at hk8 hmem).2.2; rw [hml] at this; have := q1.len; omega
        obtain ⟨u, hu'⟩ : ∃ u : Nat, u = upn % (m + 1) := ⟨_, rfl⟩
        have hui : (upn : Int) % ((m : Int) + 1) = (u : Int) := by rw [hu', Int.natCast_emod, Int.natCast_add]; rfl
        have hult : u ≤ m := by have := Nat.mod_lt upn (show 0 < m + 1 by omega); omega
        obtain ⟨X, hX, hXS⟩ := SL.low (k := 3) q1.es hult q1.cap
        have hW := whole_any n B m d l w2 q1.es (by omega)
        rw [whole_eq, we] at hW
        have hES := q1.es
        have j0 : (0 : Int) ≤ q := by omega
        have j1 : (q : Int) < (n : Int) + 2 := by omega
        have u0 : (0 : Int) ≤ u := by omega
        have u1 : (u : Int) ≤ m := by omega
        have u2 : (u : Int) ≤ d := by have := q1.cap; omega
        have m0 : (0 : Int) ≤ m := by omega
        have hlm := q1.len
        replace o1 := Lib.hid o1; replace q1 := Lib.hid q1; replace g1 := Lib.hid g1; replace hmm := Lib.hid hmm; replace hml := Lib.hid hml; replace hend := Lib.hid hend; replace we := Lib.hid we; replace hmem := Lib.hid hmem; replace hu' := Lib.hid hu'; replace hXS := Lib.hid hXS; replace hES := Lib.hid hES; replace hlm := Lib.hid hlm; replace hall := Lib.hid hall
        go_wp2_with (fail)
        refine hW.mono ?_
        rintro e w3 ⟨rfl, b3⟩
        clear hW x0 x1 x2 x3 f1
        have hd3 := (b3.block _ (blkX hd2.out)).trans hd2.out
        have x0 := blkC hd3 0
        have x1 := blkC hd3 1
        have x2 := blkC hd3 2
        have x3 := blkC hd3 3
        simp only [List.getElem?_toArray, List.getElem?_cons_zero, List.getElem?_cons_succ] at x0 x1 x2 x3
        have hb3 := Lib.hid (hb2.out.trans (b3.mono hb2.out.size))
        replace hd3 := Lib.hid hd3
        have hES3 := Lib.hid (SL.keep hES.out b3)
        have hXS3 := Lib.hid (SL.keep hXS.out b3)
        clear b3
        go_wp2_with (fail)
        go_loopw [14] (fun i wr => ∃ k : Nat, k ≤ n ∧ i = .int .i64 k ∧ Below w3.heap.size w3 wr) (fun i _ => n - (intOf i).toNat)
        case atStart => exact ⟨0, by omega, rfl, Below.refl _ _⟩
        case round =>
          clear x0 x1 x2 x3
          revert wr
          intro W1 hrel
          obtain ⟨k, hk, rfl, hb⟩ := hrel
          have hd4 := (hb.block _ (blkX hd3.out)).trans hd3.out
          have x0 := blkC hd4 0; have x1 := blkC hd4 1; have x2 := blkC hd4 2; have x3 := blkC hd4 3
          simp only [List.getElem?_toArray, List.getElem?_cons_zero, List.getElem?_cons_succ] at x0 x1 x2 x3
          have hgl := blkX hd4
          have hb4 := hb3.out.trans (hb.mono hb3.out.size)
          have hE4 := SL.keep hES3.out hb
          have hX4 := SL.keep hXS3.out hb
          by_cases hlt : k < n
          · obtain ⟨sb, so, ⟨key, dt⟩, hA, hsb, hx, sc0, sc1⟩ := SS.at_ (SL.keep hD.out.ss hb4) hlt
            subst hA
            simp only at sc0 sc1
            have k0 : (0 : Int) ≤ k := by omega
            have k1 : (k : Int) < n := by omega
            have kb5 := (Below.refl W1.heap.size W1).alloc (Nat.le_refl _) (.cells #[.string key, .int .i64 dt] 41)
            have hd5 := (kb5.block _ (blkX hd4)).trans hd4
            have hs5 := hpNew W1 (.cells #[.string key, .int .i64 dt] 41)
            have hb5 := hb4.trans (kb5.mono hb4.size)
            have hE5 := SL.keep hE4 kb5
            have hX5 := SL.keep hX4 kb5
            have ck1 := sum_any nm r dl (some ⟨sb, so, none⟩) n c ss B m d l key _ (hD.out.keep hb5).nm (hD.out.keep hb5).ss hD.out.n hD.out.cap hD.out.keys hE5 (by omega) (Ld.keep hL.out hb5)
            have hcall2 := Lib.hid (fun (V : World) (q1 : Below (W1.alloc (.cells #[.string key, .int .i64 dt] 41)).heap.size (W1.alloc (.cells #[.string key, .int .i64 dt] 41)) V) => held_any nm r dl (some ⟨sb, so, none⟩) n c ss B m d l key V (hD.out.keep (hb5.trans (q1.mono hb5.size))).nm (hD.out.keep (hb5.trans (q1.mono hb5.size))).ss hD.out.n hD.out.cap hD.out.keys (SL.keep hE5 q1) (by omega) (Ld.keep hH.out (hb5.trans (q1.mono hb5.size))))
            have hcall3 := Lib.hid (fun (V : World) (q1 : Below (W1.alloc (.cells #[.string key, .int .i64 dt] 41)).heap.size (W1.alloc (.cells #[.string key, .int .i64 dt] 41)) V) => sum_any nm r dl (some ⟨sb, so, none⟩) n c ss X u d (l.take u) key V (hD.out.keep (hb5.trans (q1.mono hb5.size))).nm (hD.out.keep (hb5.trans (q1.mono hb5.size))).ss hD.out.n hD.out.cap hD.out.keys (SL.keep hX5 q1) (by omega) (Ld.keep hL.out (hb5.trans (q1.mono hb5.size))))
            have hcall4 := Lib.hid (fun (V : World) (q1 : Below (W1.alloc (.cells #[.string key, .int .i64 dt] 41)).heap.size (W1.alloc (.cells #[.string key, .int .i64 dt] 41)) V) => held_any nm r dl (some ⟨sb, so, none⟩) n c ss X u d (l.take u) key V (hD.out.keep (hb5.trans (q1.mono hb5.size))).nm (hD.out.keep (hb5.trans (q1.mono hb5.size))).ss hD.out.n hD.out.cap hD.out.keys (SL.keep hX5 q1) (by omega) (Ld.keep hH.out (hb5.trans (q1.mono hb5.size))))
            replace hd5 := Lib.hid hd5; replace hs5 := Lib.hid hs5; replace hb5 := Lib.hid hb5; replace hE5 := Lib.hid hE5; replace hX5 := Lib.hid hX5; replace hE4 := Lib.hid hE4; replace hX4 := Lib.hid hX4; replace hd4 := Lib.hid hd4; replace hb4 := Lib.hid hb4; replace kb5 := Lib.hid kb5; replace hb := Lib.hid hb
            cases hdef : defOK nm r dl ss with
            | false =>
              have hS : sumP nm r dl ss l key = (0, 15) := by unfold sumP chkC; rw [hdef]; rfl
              have hH' : heldP nm r dl ss l key = (0, 0, 15) := by unfold heldP chkC; rw [hdef]; rfl
              rw [hS] at ck1
              replace hS := Lib.hid hS; replace hx := Lib.hid hx; replace hH' := Lib.hid hH'; replace hdef := Lib.hid hdef
              clear hcall3 hcall4
              go_wp2_with (fail)
              refine ck1.mono ?_
              rintro e w6 ⟨rfl, b6⟩
              clear ck1 x0 x1 x2 x3 sc0 sc1
              have ck2 := hcall2.out w6 b6
              rw [hH'.out] at ck2
              have hd6 := (b6.block _ (blkX hd5.out)).trans hd5.out
              have hs6 := (b6.block _ (blkX hs5.out)).trans hs5.out
              have x0 := blkC hd6 0
              have x1 := blkC hd6 1
              have x2 := blkC hd6 2
              have x3 := blkC hd6 3
              have y0 := blkC hs6 0
              have y1 := blkC hs6 1
              simp only [List.getElem?_toArray, List.getElem?_cons_zero, List.getElem?_cons_succ] at x0 x1 x2 x3 y0 y1
              have hb6 := Lib.hid (hb5.out.trans (b6.mono hb5.out.size))
              replace hd6 := Lib.hid hd6; replace hs6 := Lib.hid hs6
              clear b6 hd5 hs5
              go_wp2_with (fail)
              refine ck2.mono ?_
              rintro e w7 ⟨rfl, b7⟩
              clear ck2 x0 x1 x2 x3 y0 y1
              have hb7 := Lib.hid (hb6.out.trans (b7.mono hb6.out.size))
              clear b7
              go_wp2_with (fail)
              refine (works_any _).mono ?_
              rintro e w19 ⟨rfl, b19⟩
              go_wp2_with (fail)
              go_ret
              exact ⟨rfl, hb7.out.trans (b19.mono hb7.out.size)⟩
            | true =>
              have hstp : stepsOK ss = true := by unfold defOK at hdef; simp only [Bool.and_eq_true] at hdef; exact hdef.2
              have hlaw := cnt_law hdef hx (by rw [hlen.out]; exact hmem.out) u (by rw [hml.out]; have := hlm.out; omega)
              have hdz := (stepsOK_at hstp hx).1
              have hdv := (okV_iff _).1 (stepsOK_at hstp hx).2.1
              rw [hml.out] at hlaw
              simp only at hlaw hdz hdv
              obtain ⟨L1, L2, bb, up, dn, L3, L4, cb, cu, cd, cud, cz⟩ := hlaw
              rw [L1] at ck1
              have hend' := hend.out
              replace L1 := Lib.hid L1; replace L2 := Lib.hid L2; replace L3 := Lib.hid L3; replace L4 := Lib.hid L4; replace hx := Lib.hid hx; replace hdef := Lib.hid hdef; replace hstp := Lib.hid hstp; replace cb := Lib.hid cb; replace cu := Lib.hid cu; replace cd := Lib.hid cd; replace cud := Lib.hid cud; replace cz := Lib.hid cz
              have hdzb : (dt != 0) = true := by simp [hdz]
              have hdze : (dt == 0) = false := beq_false_of_ne hdz
              have hndz : (-dt != 0) = true := by simp [hdz]
              by_cases hqn : ed = 4
              · have hqb : (ed == 4) = true := by simp [hqn]
                rw [if_pos (hend'.trans hqn)] at ck1
                replace hend' := Lib.hid hend'; replace hqn := Lib.hid hqn
                go_wp2_with (fail)
                refine ck1.mono ?_
                rintro e w6 ⟨rfl, b6⟩
                clear ck1 x0 x1 x2 x3 sc0 sc1
                have hd6 := (b6.block _ (blkX hd5.out)).trans hd5.out
                have hs6 := (b6.block _ (blkX hs5.out)).trans hs5.out
                have x0 := blkC hd6 0
                have x1 := blkC hd6 1
                have x2 := blkC hd6 2
                have x3 := blkC hd6 3
                have y0 := blkC hs6 0
                have y1 := blkC hs6 1
                simp only [List.getElem?_toArray, List.getElem?_cons_zero, List.getElem?_cons_succ] at x0 x1 x2 x3 y0 y1
                have hb6 := Lib.hid (hb5.out.trans (b6.mono hb5.out.size))
                replace hd6 := Lib.hid hd6; replace hs6 := Lib.hid hs6
                have hq6 := b6
                clear b6 hd5 hs5
                have ck2 := hcall2.out w6 hq6
                rw [L2.out] at ck2
                go_wp2_with (fail)
                refine ck2.mono ?_
                rintro e w7 ⟨rfl, b7⟩
                clear ck2 x0 x1 x2 x3 y0 y1
                have hd7 := (b7.block _ (blkX hd6.out)).trans hd6.out
                have hs7 := (b7.block _ (blkX hs6.out)).trans hs6.out
                have x0 := blkC hd7 0
                have x1 := blkC hd7 1
                have x2 := blkC hd7 2
                have x3 := blkC hd7 3
                have y0 := blkC hs7 0
                have y1 := blkC hs7 1
                simp only [List.getElem?_toArray, List.getElem?_cons_zero, List.getElem?_cons_succ] at x0 x1 x2 x3 y0 y1
                have hb7 := Lib.hid (hb6.out.trans (b7.mono hb6.out.size))
                replace hd7 := Lib.hid hd7; replace hs7 := Lib.hid hs7
                have hq7 := hq6.trans (b7.mono hq6.size)
                clear b7 hd6 hs6
                have ck3 := hcall3.out w7 hq7
                rw [L3.out] at ck3
                go_wp2_with (fail)
                refine ck3.mono ?_
                rintro e w8 ⟨rfl, b8⟩
                clear ck3 x0 x1 x2 x3 y0 y1
                have hd8 := (b8.block _ (blkX hd7.out)).trans hd7.out
                have hs8 := (b8.block _ (blkX hs7.out)).trans hs7.out
                have x0 := blkC hd8 0
                have x1 := blkC hd8 1
                have x2 := blkC hd8 2
                have x3 := blkC hd8 3
                have y0 := blkC hs8 0
                have y1 := blkC hs8 1
                simp only [List.getElem?_toArray, List.getElem?_cons_zero, List.getElem?_cons_succ] at x0 x1 x2 x3 y0 y1
                have hb8 := Lib.hid (hb7.out.trans (b8.mono hb7.out.size))
                replace hd8 := Lib.hid hd8; replace hs8 := Lib.hid hs8
                have hq8 := hq7.trans (b8.mono hq7.size)
                clear b8 hd7 hs7
                have ck4 := hcall4.out w8 hq8
                rw [L4.out] at ck4
                go_wp2_with (fail)
                refine ck4.mono ?_
                rintro e w9 ⟨rfl, b9⟩
                clear ck4 x0 x1 x2 x3 y0 y1
                have hd9 := (b9.block _ (blkX hd8.out)).trans hd8.out
                have hs9 := (b9.block _ (blkX hs8.out)).trans hs8.out
                have x0 := blkC hd9 0
                have x1 := blkC hd9 1
                have x2 := blkC hd9 2
                have x3 := blkC hd9 3
                have y0 := blkC hs9 0
                have y1 := blkC hs9 1
                simp only [List.getElem?_toArray, List.getElem?_cons_zero, List.getElem?_cons_succ] at x0 x1 x2 x3 y0 y1
                have hb9 := Lib.hid (hb8.out.trans (b9.mono hb8.out.size))
                replace hd9 := Lib.hid hd9; replace hs9 := Lib.hid hs9
                have hq9 := hq8.trans (b9.mono hq8.size)
                clear b9 hd8 hs8
                have hfin := Lib.hid (hb.out.trans (kb5.out.trans (hq9.mono kb5.out.size) |>.mono hb.out.size))
                replace hq6 := Lib.hid hq6; replace hq7 := Lib.hid hq7; replace hq8 := Lib.hid hq8; replace hq9 := Lib.hid hq9
                have cb' := cb.out; have cu' := cu.out; have cd' := cd.out; have cud' := cud.out; have cz' := cz.out
                by_cases e1 : bb = 0
                · obtain ⟨e2, e3⟩ := cz' e1
                  clear cb' cu' cd' cud' cz'
                  subst e1 e2 e3
                  go_wp2_with (fail)
                  exact ⟨⟨k + 1, by omega, by go_num, hfin.out⟩, by simp [intOf]; omega⟩
                · have e1' : bb = dt := by rcases cb' with h | h; exact absurd h e1; exact h
                  by_cases e2 : up = 0
                  · by_cases e3 : dn = 0
                    · clear cb' cu' cd' cud' cz' e1
                      subst e1' e2 e3
                      go_wp2_with (fail)
                      exact ⟨⟨k + 1, by omega, by go_num, hfin.out⟩, by simp [intOf]; omega⟩
                    · have e3' : dn = -dt := by rcases cd' with h | h; exact absurd h e3; exact h
                      clear cb' cu' cd' cud' cz' e1 e3
                      subst e1' e2 e3'
                      go_wp2_with (fail)
                      exact ⟨⟨k + 1, by omega, by go_num, hfin.out⟩, by simp [intOf]; omega⟩
                  · have e2' : up = dt := by rcases cu' with h | h; exact absurd h e2; exact h
                    have e3 : dn = 0 := by rcases cud' with h | h; exact absurd h e2; exact h
                    clear cb' cu' cd' cud' cz' e1 e2
                    subst e3
                    obtain rfl : bb = up := by omega
                    obtain rfl : bb = dt := by omega
                    go_wp2_with (fail)
                    exact ⟨⟨k + 1, by omega, by go_num, hfin.out⟩, by simp [intOf]; omega⟩
              · have hqb : (ed == 4) = false := beq_false_of_ne hqn
                rw [if_neg (fun h => hqn (hend'.symm.trans h))] at ck1
                replace hend' := Lib.hid hend'; replace hqn := Lib.hid hqn
                go_wp2_with (fail)
                refine ck1.mono ?_
                rintro e w6 ⟨rfl, b6⟩
                clear ck1 x0 x1 x2 x3 sc0 sc1
                have hd6 := (b6.block _ (blkX hd5.out)).trans hd5.out
                have hs6 := (b6.block _ (blkX hs5.out)).trans hs5.out
                have x0 := blkC hd6 0
                have x1 := blkC hd6 1
                have x2 := blkC hd6 2
                have x3 := blkC hd6 3
                have y0 := blkC hs6 0
                have y1 := blkC hs6 1
                simp only [List.getElem?_toArray, List.getElem?_cons_zero, List.getElem?_cons_succ] at x0 x1 x2 x3 y0 y1
                have hb6 := Lib.hid (hb5.out.trans (b6.mono hb5.out.size))
                replace hd6 := Lib.hid hd6; replace hs6 := Lib.hid hs6
                have hq6 := b6
                clear b6 hd5 hs5
                have ck2 := hcall2.out w6 hq6
                rw [L2.out] at ck2
                go_wp2_with (fail)
                refine ck2.mono ?_
                rintro e w7 ⟨rfl, b7⟩
                clear ck2 x0 x1 x2 x3 y0 y1
                have hd7 := (b7.block _ (blkX hd6.out)).trans hd6.out
                have hs7 := (b7.block _ (blkX hs6.out)).trans hs6.out
                have x0 := blkC hd7 0
                have x1 := blkC hd7 1
                have x2 := blkC hd7 2
                have x3 := blkC hd7 3
                have y0 := blkC hs7 0
                have y1 := blkC hs7 1
                simp only [List.getElem?_toArray, List.getElem?_cons_zero, List.getElem?_cons_succ] at x0 x1 x2 x3 y0 y1
                have hb7 := Lib.hid (hb6.out.trans (b7.mono hb6.out.size))
                replace hd7 := Lib.hid hd7; replace hs7 := Lib.hid hs7
                have hq7 := hq6.trans (b7.mono hq6.size)
                clear b7 hd6 hs6
                have ck3 := hcall3.out w7 hq7
                rw [L3.out] at ck3
                go_wp2_with (fail)
                refine ck3.mono ?_
                rintro e w8 ⟨rfl, b8⟩
                clear ck3 x0 x1 x2 x3 y0 y1
                have hd8 := (b8.block _ (blkX hd7.out)).trans hd7.out
                have hs8 := (b8.block _ (blkX hs7.out)).trans hs7.out
                have x0 := blkC hd8 0
                have x1 := blkC hd8 1
                have x2 := blkC hd8 2
                have x3 := blkC hd8 3
                have y0 := blkC hs8 0
                have y1 := blkC hs8 1
                simp only [List.getElem?_toArray, List.getElem?_cons_zero, List.getElem?_cons_succ] at x0 x1 x2 x3 y0 y1
                have hb8 := Lib.hid (hb7.out.trans (b8.mono hb7.out.size))
                replace hd8 := Lib.hid hd8; replace hs8 := Lib.hid hs8
                have hq8 := hq7.trans (b8.mono hq7.size)
                clear b8 hd7 hs7
                have ck4 := hcall4.out w8 hq8
                rw [L4.out] at ck4
                go_wp2_with (fail)
                refine ck4.mono ?_
                rintro e w9 ⟨rfl, b9⟩
                clear ck4 x0 x1 x2 x3 y0 y1
                have hd9 := (b9.block _ (blkX hd8.out)).trans hd8.out
                have hs9 := (b9.block _ (blkX hs8.out)).trans hs8.out
                have x0 := blkC hd9 0
                have x1 := blkC hd9 1
                have x2 := blkC hd9 2
                have x3 := blkC hd9 3
                have y0 := blkC hs9 0
                have y1 := blkC hs9 1
                simp only [List.getElem?_toArray, List.getElem?_cons_zero, List.getElem?_cons_succ] at x0 x1 x2 x3 y0 y1
                have hb9 := Lib.hid (hb8.out.trans (b9.mono hb8.out.size))
                replace hd9 := Lib.hid hd9; replace hs9 := Lib.hid hs9
                have hq9 := hq8.trans (b9.mono hq8.size)
                clear b9 hd8 hs8
                have hfin := Lib.hid (hb.out.trans (kb5.out.trans (hq9.mono kb5.out.size) |>.mono hb.out.size))
                replace hq6 := Lib.hid hq6; replace hq7 := Lib.hid hq7; replace hq8 := Lib.hid hq8; replace hq9 := Lib.hid hq9
                have cb' := cb.out; have cu' := cu.out; have cd' := cd.out; have cud' := cud.out; have cz' := cz.out
                by_cases e1 : bb = 0
                · obtain ⟨e2, e3⟩ := cz' e1
                  clear cb' cu' cd' cud' cz'
                  subst e1 e2 e3
                  go_wp2_with (fail)
                  exact ⟨⟨k + 1, by omega, by go_num, hfin.out⟩, by simp [intOf]; omega⟩
                · have e1' : bb = dt := by rcases cb' with h | h; exact absurd h e1; exact h
                  by_cases e2 : up = 0
                  · by_cases e3 : dn = 0
                    · clear cb' cu' cd' cud' cz' e1
                      subst e1' e2 e3
                      go_wp2_with (fail)
                      exact ⟨⟨k + 1, by omega, by go_num, hfin.out⟩, by simp [intOf]; omega⟩
                    · have e3' : dn = -dt := by rcases cd' with h | h; exact absurd h e3; exact h
                      clear cb' cu' cd' cud' cz' e1 e3
                      subst e1' e2 e3'
                      go_wp2_with (fail)
                      exact ⟨⟨k + 1, by omega, by go_num, hfin.out⟩, by simp [intOf]; omega⟩
                  · have e2' : up = dt := by rcases cu' with h | h; exact absurd h e2; exact h
                    have e3 : dn = 0 := by rcases cud' with h | h; exact absurd h e2; exact h
                    clear cb' cu' cd' cud' cz' e1 e2
                    subst e3
                    obtain rfl : bb = up := by omega
                    obtain rfl : bb = dt := by omega
                    go_wp2_with (fail)
                    exact ⟨⟨k + 1, by omega, by go_num, hfin.out⟩, by simp [intOf]; omega⟩
          · obtain rfl : k = n := by omega
            have hb4' := Lib.hid hb4
            replace hb := Lib.hid hb; replace hd4 := Lib.hid hd4; replace hE4 := Lib.hid hE4; replace hX4 := Lib.hid hX4
            go_wp2_with (fail)
            refine (works_any _).mono ?_
            rintro e w19 ⟨rfl, b19⟩
            go_wp2_with (fail)
            go_ret
            exact ⟨rfl, hb4'.out.trans (b19.mono hb4'.out.size)⟩
end Go.Proofs.YthmkfbabacehnaaDoor
