/- The reference's Decode. -/
import Derived.Test.YtlinjanflenljaaGreatDoorRN
import Derived.Test.YtlinjanflenljaaGreatDoorRMChk
import Derived.Test.YtlinjanflenljaaGreatDoorDec
import Derived.Test.YtlinjanflenljaaGreatDoorRM
namespace Go.Proofs.YtlinjanflenljaaGreatDoor
open Go.RowKit
set_option linter.unusedSimpArgs false
set_option linter.unusedVariables false
set_option linter.unusedSectionVars false
set_option maxRecDepth 10000
theorem rSm_fst (s : RS) : (rSm s).1 = smN (rdU s).1 := by unfold rSm smN; split <;> rfl
theorem rSm_snd (s : RS) : (rSm s).2 = (rdU s).2 := by unfold rSm; split <;> rfl
theorem smN_le (x : Nat) : smN x ≤ 1099511627776 := by unfold smN; split <;> omega
theorem rEnts_stop (n : Nat) (s : RS) (h : left s = []) : gEnts rSm n s = ([], s) := by
  cases n with
  | zero => rfl
  | succ n => unfold gEnts; rw [if_pos h]
theorem rEnts_go (n : Nat) (s : RS) (h : ¬ left s = []) : gEnts rSm (n + 1) s = ((gEnt rSm s).1 :: (gEnts rSm n (gEnt rSm s).2).1, (gEnts rSm n (gEnt rSm s).2).2) := by
  conv => lhs; unfold gEnts
  rw [if_neg h]
theorem rdec_ok {b : List UInt8} (hb : b.length ≤ 1048576) (h : gOK rSm b) : decM b = (gMg rSm b, 0) := by
  have h2 := (gOK_same b).1 h
  unfold decM
  rw [if_neg (by omega), if_pos h2, gMg_same b h2]
theorem rdec_no {b : List UInt8} (hb : b.length ≤ 1048576) (h : ¬ gOK rSm b) : decM b = (zeroMg, 10) := by
  unfold decM
  rw [if_neg (by omega), if_neg fun q => h ((gOK_same b).2 q)]
/-- The reader alone. -/
def R0 (w0 : World) (g : Nat) (s : RS) (W : World) : Prop := w0.heap.size ≤ g ∧ Below w0.heap.size w0 W ∧ ∃ A c, IsRr W g A c s
theorem R0.step {w0 W : World} {g : Nat} {s s' : RS} (h : R0 w0 g s W) {f : Nat} {args : Array Value} {R : Ending} (hc : ∀ A c, IsRr W g A c s → Calls Tryz.prog f args W fun e w' => e = R ∧ RrTo W g s' w') : Calls Tryz.prog f args W fun e w' => e = R ∧ R0 w0 g s' w' := by
  obtain ⟨hg, hb, A, c, hi⟩ := h
  refine (hc A c hi).mono fun e w' ⟨he, A', c', hi', hch⟩ => ⟨he, hg, hch.belowAfter hb hb.size (fun k hk e => by omega), A', c', hi'⟩
theorem R0.made {w0 W : World} {g : Nat} {s : RS} (h : R0 w0 g s W) (K F T : Int) : RN w0 g s W.heap.size { zeroMg with k := K, fr := F, tt := T } none 0 [] (W.alloc (.cells #[.int .i64 K, .int .i64 F, .int .i64 T, .int .i64 0, .int .i64 0, .int .i64 0, .int .i64 0, .string ⟨#[]⟩, .slice none 0 0] 28)) := by
  obtain ⟨hg, hb, A, c, hi⟩ := h
  exact ⟨hg, hi.lt, hb.alloc hb.size _, ⟨A, c, hi.below ((Below.refl _ W).alloc (Nat.le_refl _) _)⟩, hpNew W _, World.ownsRow_nil _ _ _ _, fun x hx => by cases hx⟩
theorem RL.left {W : World} {g c : Nat} {A : Option Addr} {s : RS} (h : IsRr W g A c s) : Calls Tryz.prog 39 #[.pointer (some ⟨g, 0, none⟩)] W fun e w' => e = .returned (.int .i64 (left s).length) ∧ W = w' := rleft_p  h
theorem RL.end_ {W : World} {g c : Nat} {A : Option Addr} {s : RS} (h : IsRr W g A c s) : Calls Tryz.prog 40 #[.pointer (some ⟨g, 0, none⟩)] W fun e w' => e = .returned (.int .i64 (endE' s)) ∧ W = w' := rend_p  h
attribute [local go_sem ↓] hideAppend
set_option maxHeartbeats 64000000 in
theorem rdec_any (A : Option Addr) (n c : Nat) (xs : List UInt8) (w : World) (hR : RB w A n xs) (hn : n ≤ 70368744177664) : Calls Tryz.prog 14 #[.slice A n c] w fun e w' => DecTo w xs e w' := by
  have hx := hR.1
  obtain ⟨w0, hw0⟩ : ∃ w0, w0 = w.alloc (.cells #[.int .i64 0, .int .i64 0, .int .i64 0, .int .i64 0, .int .i64 0, .int .i64 0, .int .i64 0, .string ⟨#[]⟩, .slice none 0 0] 28) := ⟨_, rfl⟩
  have kb0 : Below w.heap.size w w0 := by rw [hw0]; exact (Below.refl _ w).alloc (Nat.le_refl _) _
  have hR0 : w0.heap[w.heap.size]? = some (.cells #[.int .i64 0, .int .i64 0, .int .i64 0, .int .i64 0, .int .i64 0, .int .i64 0, .int .i64 0, .string ⟨#[]⟩, .slice none 0 0] 28 (0, 0)) := by rw [hw0]; exact hpNew w _
  have hz0 : w0.heap.size = w.heap.size + 1 := by rw [hw0]; simp
  by_cases hbig : 1048576 < n
  · have hd := Lib.hid (dec_big (b := xs) (by omega))
    have hb1 : (1048576 : Int) < (n : Int) := by omega
    have hbz := Lib.hid (Below.refl w.heap.size w)
    clear hR hbig hw0 kb0 hR0 hz0
    go_enter Tryz.func14, Tryz.ntmps14
    go_wp2_with (fail)
    refine bodyPost_ret (by simp [results, Tryz.results14, go_sem, *]; try with_reducible rfl) rfl ?_
    exact DecTo.zero hd.out (by repeat (first | exact hbz.out | (refine Below.setCell ?_ (by simp) _) | (refine Below.alloc ?_ (by first | simp | (simp; omega)) _)))
  have hb1 : ¬ (1048576 : Int) < (n : Int) := by omega
  have hread := readR_any (c := c) (hR.below kb0) hn
  have hxl : xs.length ≤ 1048576 := by omega
  obtain ⟨n1, hn1⟩ : ∃ x, x = (rdU (some xs)).1 := ⟨_, rfl⟩
  obtain ⟨s1, hs1⟩ : ∃ x, x = (rdU (some xs)).2 := ⟨_, rfl⟩
  obtain ⟨K, hK⟩ : ∃ x, x = smN n1 := ⟨_, rfl⟩
  obtain ⟨n2, hn2⟩ : ∃ x, x = (rdU s1).1 := ⟨_, rfl⟩
  obtain ⟨s2, hs2⟩ : ∃ x, x = (rdU s1).2 := ⟨_, rfl⟩
  obtain ⟨F, hF⟩ : ∃ x, x = smN n2 := ⟨_, rfl⟩
  obtain ⟨n3, hn3⟩ : ∃ x, x = (rdU s2).1 := ⟨_, rfl⟩
  obtain ⟨s3, hs3⟩ : ∃ x, x = (rdU s2).2 := ⟨_, rfl⟩
  obtain ⟨TT, hTT⟩ : ∃ x, x = smN n3 := ⟨_, rfl⟩
  obtain ⟨r4, hr4⟩ : ∃ x, x = gB rSm (uB K) s3 := ⟨_, rfl⟩
  obtain ⟨r5, hr5⟩ : ∃ x, x = gN rSm (uS K) r4.2.2 := ⟨_, rfl⟩
  obtain ⟨r6, hr6⟩ : ∃ x, x = gN rSm (uN K) r5.2 := ⟨_, rfl⟩
  obtain ⟨r7, hr7⟩ : ∃ x, x = gV (uV K) r6.2 := ⟨_, rfl⟩
  obtain ⟨r8, hr8⟩ : ∃ x, x = gN rSm (uL K) r7.2 := ⟨_, rfl⟩
  have hmg : gMg rSm xs = (⟨K, F, TT, r4.1, r4.2.1, r5.1, r6.1, r7.1, (gEnts rSm r8.1.toNat r8.2).1⟩ : Mg) := by
    subst hr8 hr7 hr6 hr5 hr4 hTT hs3 hn3 hF hs2 hn2 hK hs1 hn1
    simp only [gMg, gCnt, rSm_fst, rSm_snd]
  have hge : gEnd rSm xs = (gEnts rSm r8.1.toNat r8.2).2 := by
    subst hr8 hr7 hr6 hr5 hr4 hTT hs3 hn3 hF hs2 hn2 hK hs1 hn1
    simp only [gEnd, gCnt, rSm_fst, rSm_snd]
  have hgc : (gCnt rSm xs).1 = r8.1 := by
    subst hr8 hr7 hr6 hr5 hr4 hTT hs3 hn3 hF hs2 hn2 hK hs1 hn1
    simp only [gCnt, rSm_fst, rSm_snd]
  have hle8 : r8.1 ≤ 1099511627776 := by
    rw [hr8]; unfold gN; split
    · rw [rSm_fst]; exact smN_le _
    · simp
  have us := fun (hk : 1 ≤ K ∧ K ≤ 11) W => uses_any K hk W
  have i1 := fun W => rin_any K 1 11 W
  have m1 := fun W => rsmall_any n1 W
  rewrite [← hK] at m1
  have m2 := fun W => rsmall_any n2 W
  rewrite [← hF] at m2
  have m3 := fun W => rsmall_any n3 W
  rewrite [← hTT] at m3
  replace hR := Lib.hid hR
  replace kb0 := Lib.hid kb0
  replace hR0 := Lib.hid hR0
  replace hn1 := Lib.hid hn1
  replace hs1 := Lib.hid hs1
  replace hK := Lib.hid hK
  replace hn2 := Lib.hid hn2
  replace hs2 := Lib.hid hs2
  replace hF := Lib.hid hF
  replace hn3 := Lib.hid hn3
  replace hs3 := Lib.hid hs3
  replace hTT := Lib.hid hTT
  replace hr4 := Lib.hid hr4
  replace hr5 := Lib.hid hr5
  replace hr6 := Lib.hid hr6
  replace hr7 := Lib.hid hr7
  replace hr8 := Lib.hid hr8
  replace hmg := Lib.hid hmg
  replace hge := Lib.hid hge
  replace hgc := Lib.hid hgc
  replace us := Lib.hid us
  replace i1 := Lib.hid i1
  replace m1 := Lib.hid m1
  replace m2 := Lib.hid m2
  replace m3 := Lib.hid m3
  clear hbig hx
  go_enter Tryz.func14, Tryz.ntmps14
  go_wp2_with (fail)
  rw [← hw0]
  clear hw0
  refine hread.mono ?_
  rintro e w1 ⟨g, A1, c1, rfl, hg, hi, hrow, b1⟩
  clear hread hrow
  have h0 : R0 w0 g (some xs) w1 := ⟨hg, b1, A1, c1, hi⟩
  replace h0 := Lib.hid h0
  clear hi b1
  have hu := R0.step h0.out (fun A c hi => rUintR_any (some xs) hi)
  rewrite [← hn1.out, ← hs1.out] at hu
  go_wp2_with (fail)
  refine hu.mono ?_
  rintro e v1 ⟨rfl, h1'⟩
  replace h1' := Lib.hid h1'
  clear hu h0
  go_wp2_with (fail)
  refine (m1.out _).mono ?_
  rintro e w' ⟨rfl, rfl⟩
  have hu := R0.step h1'.out (fun A c hi => rUintR_any s1 hi)
  rewrite [← hn2.out, ← hs2.out] at hu
  go_wp2_with (fail)
  refine hu.mono ?_
  rintro e v2 ⟨rfl, h2'⟩
  replace h2' := Lib.hid h2'
  clear hu h1'
  go_wp2_with (fail)
  refine (m2.out _).mono ?_
  rintro e w' ⟨rfl, rfl⟩
  have hu := R0.step h2'.out (fun A c hi => rUintR_any s2 hi)
  rewrite [← hn3.out, ← hs3.out] at hu
  go_wp2_with (fail)
  refine hu.mono ?_
  rintro e v3 ⟨rfl, h3'⟩
  replace h3' := Lib.hid h3'
  clear hu h2'
  go_wp2_with (fail)
  refine (m3.out _).mono ?_
  rintro e w' ⟨rfl, rfl⟩
  have hq : RN w0 g s3 v3.heap.size { zeroMg with k := K, fr := F, tt := TT } none 0 [] (v3.alloc (.cells #[.int .i64 K, .int .i64 F, .int .i64 TT, .int .i64 0, .int .i64 0, .int .i64 0, .int .i64 0, .string ⟨#[]⟩, .slice none 0 0] 28)) := R0.made h3'.out K F TT
  replace hq := Lib.hid hq
  have hRk : ∀ W, Below w0.heap.size w0 W → W.heap[w.heap.size]? = some (.cells #[.int .i64 0, .int .i64 0, .int .i64 0, .int .i64 0, .int .i64 0, .int .i64 0, .int .i64 0, .string ⟨#[]⟩, .slice none 0 0] 28 (0, 0)) := fun W hb => (hb.block _ (by omega)).trans hR0.out
  replace hRk := Lib.hid hRk
  obtain ⟨gm, hgm⟩ : ∃ gm, gm = v3.heap.size := ⟨_, rfl⟩
  obtain ⟨W1, hW1⟩ : ∃ W1, W1 = v3.alloc (.cells #[.int .i64 K, .int .i64 F, .int .i64 TT, .int .i64 0, .int .i64 0, .int .i64 0, .int .i64 0, .string ⟨#[]⟩, .slice none 0 0] 28) := ⟨_, rfl⟩
  skip
  have ck : (v3.alloc (.cells #[.int .i64 K, .int .i64 F, .int .i64 TT, .int .i64 0, .int .i64 0, .int .i64 0, .int .i64 0, .string ⟨#[]⟩, .slice none 0 0] 28)).cell? ⟨v3.heap.size, 0, none⟩ = some (.int .i64 K) := blkC hq.out.ms 0
  rcases Bool.eq_false_or_eq_true (inB K 1 11) with hk | hk
  rotate_left
  · have hde := Lib.hid (rdec_no hxl (fun g => by have := g.1; rewrite [hmg.out] at this; rewrite [show inK K = inB K 1 11 from rfl, hk] at this; cases this))
    have i2 := i1.out
    rewrite [hk] at i2
    have hRR := hRk.out _ hq.out.bel
    have hbz := Lib.hid (kb0.out.trans (hq.out.bel.mono kb0.out.size))
    have r0' : (v3.alloc (.cells #[.int .i64 K, .int .i64 F, .int .i64 TT, .int .i64 0, .int .i64 0, .int .i64 0, .int .i64 0, .string ⟨#[]⟩, .slice none 0 0] 28)).cell? ⟨w.heap.size, 0, none⟩ = some (.int .i64 0) := blkC hRR 0
    have r1' : (v3.alloc (.cells #[.int .i64 K, .int .i64 F, .int .i64 TT, .int .i64 0, .int .i64 0, .int .i64 0, .int .i64 0, .string ⟨#[]⟩, .slice none 0 0] 28)).cell? ⟨w.heap.size, 1, none⟩ = some (.int .i64 0) := blkC hRR 1
    have r2' : (v3.alloc (.cells #[.int .i64 K, .int .i64 F, .int .i64 TT, .int .i64 0, .int .i64 0, .int .i64 0, .int .i64 0, .string ⟨#[]⟩, .slice none 0 0] 28)).cell? ⟨w.heap.size, 2, none⟩ = some (.int .i64 0) := blkC hRR 2
    have r3' : (v3.alloc (.cells #[.int .i64 K, .int .i64 F, .int .i64 TT, .int .i64 0, .int .i64 0, .int .i64 0, .int .i64 0, .string ⟨#[]⟩, .slice none 0 0] 28)).cell? ⟨w.heap.size, 3, none⟩ = some (.int .i64 0) := blkC hRR 3
    have r4' : (v3.alloc (.cells #[.int .i64 K, .int .i64 F, .int .i64 TT, .int .i64 0, .int .i64 0, .int .i64 0, .int .i64 0, .string ⟨#[]⟩, .slice none 0 0] 28)).cell? ⟨w.heap.size, 4, none⟩ = some (.int .i64 0) := blkC hRR 4
    have r5' : (v3.alloc (.cells #[.int .i64 K, .int .i64 F, .int .i64 TT, .int .i64 0, .int .i64 0, .int .i64 0, .int .i64 0, .string ⟨#[]⟩, .slice none 0 0] 28)).cell? ⟨w.heap.size, 5, none⟩ = some (.int .i64 0) := blkC hRR 5
    have r6' : (v3.alloc (.cells #[.int .i64 K, .int .i64 F, .int .i64 TT, .int .i64 0, .int .i64 0, .int .i64 0, .int .i64 0, .string ⟨#[]⟩, .slice none 0 0] 28)).cell? ⟨w.heap.size, 6, none⟩ = some (.int .i64 0) := blkC hRR 6
    have r7' : (v3.alloc (.cells #[.int .i64 K, .int .i64 F, .int .i64 TT, .int .i64 0, .int .i64 0, .int .i64 0, .int .i64 0, .string ⟨#[]⟩, .slice none 0 0] 28)).cell? ⟨w.heap.size, 7, none⟩ = some (.string ⟨#[]⟩) := blkC hRR 7
    have r8' : (v3.alloc (.cells #[.int .i64 K, .int .i64 F, .int .i64 TT, .int .i64 0, .int .i64 0, .int .i64 0, .int .i64 0, .string ⟨#[]⟩, .slice none 0 0] 28)).cell? ⟨w.heap.size, 8, none⟩ = some (.slice none 0 0) := blkC hRR 8
    have rf := blkF hRR; have rx := blkX hRR
    clear hRR
    go_wp2_with (fail)
    refine (i2 _).mono ?_
    rintro e w' ⟨rfl, rfl⟩
    go_wp2_with (fail)
    refine bodyPost_ret (by simp [results, Tryz.results14, go_sem, *]; try with_reducible rfl) rfl ?_
    exact DecTo.zero hde.out (by
        repeat (refine Below.setCell ?_ (by simp) _)
        exact hbz.out)
  have hk1 := of_decide_eq_true (show decide (1 ≤ K ∧ K ≤ 11) = true from hk)
  have us1 := us.out hk1
  have i2 := i1.out
  rewrite [hk] at i2
  clear us i1
  go_wp2_with (fail)
  refine (i2 _).mono ?_
  rintro e w' ⟨rfl, rfl⟩
  go_wp2_with (fail)
  refine (us1 _).mono ?_
  rintro e w' ⟨rfl, rfl⟩
  clear us1 i2 ck
  rewrite [← hgm, ← hW1] at hq
  simp only [← hgm, ← hW1]
  clear hW1
  replace hgm := Lib.hid hgm
  have hq' : RN w0 g s3 gm (⟨K, F, TT, 0, 0, 0, 0, [], []⟩ : Mg) none 0 [] W1 := hq.out
  replace hq' := Lib.hid hq'
  clear hq; have hq := hq'; clear hq'
  go_upto_if 44 with (fail)
  go_cut [6] from 35 (fun bb wx => bb = .bool (uB K) ∧ RN w0 g r4.2.2 gm (⟨K, F, TT, r4.1, r4.2.1, 0, 0, [], []⟩ : Mg) none 0 [] wx)
  case first =>
    rcases Bool.eq_false_or_eq_true (uB K) with hu | hu
    · have er : r4 = (smN (rdU s3).1, smN (rdU (rdU s3).2).1, (rdU (rdU s3).2).2) := by rw [hr4.out, hu]; simp only [gB, if_true, rSm_fst, rSm_snd]
      obtain ⟨na, hna⟩ : ∃ x, x = (rdU s3).1 := ⟨_, rfl⟩
      obtain ⟨sa, hsa⟩ : ∃ x, x = (rdU s3).2 := ⟨_, rfl⟩
      obtain ⟨nb, hnb⟩ : ∃ x, x = (rdU sa).1 := ⟨_, rfl⟩
      obtain ⟨sb, hsb⟩ : ∃ x, x = (rdU sa).2 := ⟨_, rfl⟩
      rewrite [← hna, ← hsa, ← hnb, ← hsb] at er
      have ua := RN.step hq.out (fun A c hi => rUintR_any s3 hi)
      rewrite [← hna, ← hsa] at ua
      replace er := Lib.hid er; replace hna := Lib.hid hna; replace hsa := Lib.hid hsa; replace hnb := Lib.hid hnb; replace hsb := Lib.hid hsb
      rw [hu]
      go_wp2_with (fail)
      refine ua.mono ?_
      rintro e x1 ⟨rfl, p1⟩
      replace p1 := Lib.hid p1
      clear ua
      go_wp2_with (fail)
      refine (rsmall_any na _).mono ?_
      rintro e w' ⟨rfl, rfl⟩
      obtain ⟨va, hva⟩ : ∃ x, x = smN na := ⟨_, rfl⟩
      rw [← hva]
      replace hva := Lib.hid hva
      have ub := RN.step p1.out (fun A c hi => rUintR_any sa hi)
      rewrite [← hnb.out, ← hsb.out] at ub
      go_wp2_with (fail)
      refine ub.mono ?_
      rintro e x2 ⟨rfl, p2⟩
      clear ub
      replace p2 := Lib.hid p2
      go_wp2_with (fail)
      refine (rsmall_any nb _).mono ?_
      rintro e w' ⟨rfl, rfl⟩
      obtain ⟨vb, hvb⟩ : ∃ x, x = smN nb := ⟨_, rfl⟩
      rw [← hvb]
      replace hvb := Lib.hid hvb
      have f1 := blkF p2.out.ms
      have y3 : x2.cell? ⟨gm, 3, none⟩ = some (.int .i64 0) := blkC p2.out.ms 3
      have y4 : x2.cell? ⟨gm, 4, none⟩ = some (.int .i64 0) := blkC p2.out.ms 4
      have lG := blkX p2.out.ms
      have p3 : RN w0 g sb gm (⟨K, F, TT, va, vb, 0, 0, [], []⟩ : Mg) none 0 [] ((x2.setCell ⟨gm, 3, none⟩ (.int .i64 va)).setCell ⟨gm, 4, none⟩ (.int .i64 vb)) := p2.out.set ((setG x2 gm 3 _).trans (setG _ gm 4 _) fun _ _ e => e) (by
          have hq := hpSet (i := 4) (v := .int .i64 vb) (hpSet (i := 3) (v := .int .i64 va) p2.out.ms)
          rw [hq]; simp [mCells]) rfl
      have e4 : r4 = (va, vb, sb) := by rw [er.out, hva.out, hvb.out]
      replace p3 := Lib.hid p3; replace e4 := Lib.hid e4
      go_wp2_with (fail)
      go_meet
      have e5 := e4.out
      subst e5
      exact ⟨by rw [hu], p3.out⟩
    · have er : r4 = (0, 0, s3) := by rw [hr4.out, hu]; rfl
      replace er := Lib.hid er
      rw [hu]
      go_wp2_with (fail)
      go_meet
      have e5 := er.out
      subst e5
      exact ⟨by rw [hu], hq.out⟩
  case rest =>
    obtain ⟨rfl, hcut⟩ := hcut
    clear hq
    have hq := Lib.hid hcut
    clear hcut
    generalize wc = W2 at *
    go_upto_if 53 with (fail)
    go_cut [7] from 35 (fun bb wx => bb = .bool (uS K) ∧ RN w0 g r5.2 gm (⟨K, F, TT, r4.1, r4.2.1, r5.1, 0, [], []⟩ : Mg) none 0 [] wx)
    case first =>
      rcases Bool.eq_false_or_eq_true (uS K) with hu | hu
      · have er : r5 = (smN (rdU r4.2.2).1, (rdU r4.2.2).2) := by rw [hr5.out, hu]; simp only [gN, if_true]; rw [← rSm_fst, ← rSm_snd]
        obtain ⟨na, hna⟩ : ∃ x, x = (rdU r4.2.2).1 := ⟨_, rfl⟩
        obtain ⟨sa, hsa⟩ : ∃ x, x = (rdU r4.2.2).2 := ⟨_, rfl⟩
        rewrite [← hna, ← hsa] at er
        have ua := RN.step hq.out (fun A c hi => rUintR_any r4.2.2 hi)
        rewrite [← hna, ← hsa] at ua
        replace er := Lib.hid er; replace hna := Lib.hid hna; replace hsa := Lib.hid hsa
        rw [hu]
        go_wp2_with (fail)
        refine ua.mono ?_
        rintro e x2 ⟨rfl, p2⟩
        replace p2 := Lib.hid p2
        clear ua
        go_wp2_with (fail)
        refine (rsmall_any na _).mono ?_
        rintro e w' ⟨rfl, rfl⟩
        obtain ⟨va, hva⟩ : ∃ x, x = smN na := ⟨_, rfl⟩
        rw [← hva]
        replace hva := Lib.hid hva
        have f1 := blkF p2.out.ms
        have y3 : x2.cell? ⟨gm, 5, none⟩ = some (.int .i64 0) := blkC p2.out.ms 5
        have lG := blkX p2.out.ms
        have p3 : RN w0 g sa gm (⟨K, F, TT, r4.1, r4.2.1, va, 0, [], []⟩ : Mg) none 0 [] (x2.setCell ⟨gm, 5, none⟩ (.int .i64 va)) := p2.out.set (setG x2 gm 5 _) (by
            have hq := hpSet (i := 5) (v := .int .i64 va) p2.out.ms
            rw [hq]; simp [mCells]) rfl
        have e4 : r5 = (va, sa) := by rw [er.out, hva.out]
        replace p3 := Lib.hid p3; replace e4 := Lib.hid e4
        go_wp2_with (fail)
        go_meet
        have e5 := e4.out
        subst e5
        exact ⟨by rw [hu], p3.out⟩
      · have er : r5 = (0, r4.2.2) := by rw [hr5.out, hu]; rfl
        replace er := Lib.hid er
        rw [hu]
        go_wp2_with (fail)
        go_meet
        have e5 := er.out
        subst e5
        exact ⟨by rw [hu], hq.out⟩
    case rest =>
      obtain ⟨rfl, hcut⟩ := hcut
      clear hq
      have hq := Lib.hid hcut
      clear hcut
      generalize wc = W3 at *
      go_upto_if 58 with (fail)
      go_cut [8] from 35 (fun bb wx => bb = .bool (uN K) ∧ RN w0 g r6.2 gm (⟨K, F, TT, r4.1, r4.2.1, r5.1, r6.1, [], []⟩ : Mg) none 0 [] wx)
      case first =>
        rcases Bool.eq_false_or_eq_true (uN K) with hu | hu
        · have er : r6 = (smN (rdU r5.2).1, (rdU r5.2).2) := by rw [hr6.out, hu]; simp only [gN, if_true]; rw [← rSm_fst, ← rSm_snd]
          obtain ⟨na, hna⟩ : ∃ x, x = (rdU r5.2).1 := ⟨_, rfl⟩
          obtain ⟨sa, hsa⟩ : ∃ x, x = (rdU r5.2).2 := ⟨_, rfl⟩
          rewrite [← hna, ← hsa] at er
          have ua := RN.step hq.out (fun A c hi => rUintR_any r5.2 hi)
          rewrite [← hna, ← hsa] at ua
          replace er := Lib.hid er; replace hna := Lib.hid hna; replace hsa := Lib.hid hsa
          rw [hu]
          go_wp2_with (fail)
          refine ua.mono ?_
          rintro e x2 ⟨rfl, p2⟩
          replace p2 := Lib.hid p2
          clear ua
          go_wp2_with (fail)
          refine (rsmall_any na _).mono ?_
          rintro e w' ⟨rfl, rfl⟩
          obtain ⟨va, hva⟩ : ∃ x, x = smN na := ⟨_, rfl⟩
          rw [← hva]
          replace hva := Lib.hid hva
          have f1 := blkF p2.out.ms
          have y3 : x2.cell? ⟨gm, 6, none⟩ = some (.int .i64 0) := blkC p2.out.ms 6
          have lG := blkX p2.out.ms
          have p3 : RN w0 g sa gm (⟨K, F, TT, r4.1, r4.2.1, r5.1, va, [], []⟩ : Mg) none 0 [] (x2.setCell ⟨gm, 6, none⟩ (.int .i64 va)) := p2.out.set (setG x2 gm 6 _) (by
              have hq := hpSet (i := 6) (v := .int .i64 va) p2.out.ms
              rw [hq]; simp [mCells]) rfl
          have e4 : r6 = (va, sa) := by rw [er.out, hva.out]
          replace p3 := Lib.hid p3; replace e4 := Lib.hid e4
          go_wp2_with (fail)
          go_meet
          have e5 := e4.out
          subst e5
          exact ⟨by rw [hu], p3.out⟩
        · have er : r6 = (0, r5.2) := by rw [hr6.out, hu]; rfl
          replace er := Lib.hid er
          rw [hu]
          go_wp2_with (fail)
          go_meet
          have e5 := er.out
          subst e5
          exact ⟨by rw [hu], hq.out⟩
      case rest =>
        obtain ⟨rfl, hcut⟩ := hcut
        clear hq
        have hq := Lib.hid hcut
        clear hcut
        generalize wc = W4 at *
        go_upto_if 63 with (fail)
        go_cut [9] from 35 (fun bb wx => bb = .bool (uV K) ∧ RN w0 g r7.2 gm (⟨K, F, TT, r4.1, r4.2.1, r5.1, r6.1, r7.1, []⟩ : Mg) none 0 [] wx)
        case first =>
          rcases Bool.eq_false_or_eq_true (uV K) with hu | hu
          · have er : r7 = ((rdT r6.2).1, (rdT r6.2).2) := by rw [hr7.out, hu]; simp only [gV, if_true]
            obtain ⟨va, hva⟩ : ∃ x, x = (rdT r6.2).1 := ⟨_, rfl⟩
            obtain ⟨sa, hsa⟩ : ∃ x, x = (rdT r6.2).2 := ⟨_, rfl⟩
            rewrite [← hva, ← hsa] at er
            have ua := RN.step hq.out (fun A c hi => rTextR_any r6.2 hi)
            rewrite [← hva, ← hsa, show strOf va = sOf va from rfl] at ua
            replace er := Lib.hid er; replace hva := Lib.hid hva; replace hsa := Lib.hid hsa
            rw [hu]
            go_wp2_with (fail)
            refine ua.mono ?_
            rintro e x2 ⟨rfl, p2⟩
            replace p2 := Lib.hid p2
            clear ua
            have f1 := blkF p2.out.ms
            have y3 : x2.cell? ⟨gm, 7, none⟩ = some (.string ⟨#[]⟩) := blkC p2.out.ms 7
            have lG := blkX p2.out.ms
            have p3 : RN w0 g sa gm (⟨K, F, TT, r4.1, r4.2.1, r5.1, r6.1, va, []⟩ : Mg) none 0 [] (x2.setCell ⟨gm, 7, none⟩ (.string (sOf va))) := p2.out.set (setG x2 gm 7 _) (by
                have hq := hpSet (i := 7) (v := .string (sOf va)) p2.out.ms
                rw [hq]; simp [mCells]) rfl
            have e4 : r7 = (va, sa) := er.out
            replace p3 := Lib.hid p3; replace e4 := Lib.hid e4
            go_wp2_with (fail)
            go_meet
            have e5 := e4.out
            subst e5
            exact ⟨by rw [hu], p3.out⟩
          · have er : r7 = ([], r6.2) := by rw [hr7.out, hu]; rfl
            replace er := Lib.hid er
            rw [hu]
            go_wp2_with (fail)
            go_meet
            have e5 := er.out
            subst e5
            exact ⟨by rw [hu], hq.out⟩
        case rest =>
          obtain ⟨rfl, hcut⟩ := hcut
          clear hq
          have hq := Lib.hid hcut
          clear hcut
          generalize wc = W5 at *
          go_upto_if 67 with (fail)
          go_cut [11, 10] from 35 (fun v bb wx => v = .int .i64 r8.1 ∧ bb = .bool (uL K) ∧ RN w0 g r8.2 gm (⟨K, F, TT, r4.1, r4.2.1, r5.1, r6.1, r7.1, []⟩ : Mg) none 0 [] wx)
          case first =>
            rcases Bool.eq_false_or_eq_true (uL K) with hu | hu
            · have er : r8 = (smN (rdU r7.2).1, (rdU r7.2).2) := by rw [hr8.out, hu]; simp only [gN, if_true]; rw [← rSm_fst, ← rSm_snd]
              obtain ⟨na, hna⟩ : ∃ x, x = (rdU r7.2).1 := ⟨_, rfl⟩
              obtain ⟨sa, hsa⟩ : ∃ x, x = (rdU r7.2).2 := ⟨_, rfl⟩
              rewrite [← hna, ← hsa] at er
              have ua := RN.step hq.out (fun A c hi => rUintR_any r7.2 hi)
              rewrite [← hna, ← hsa] at ua
              replace er := Lib.hid er; replace hna := Lib.hid hna; replace hsa := Lib.hid hsa
              rw [hu]
              go_wp2_with (fail)
              refine ua.mono ?_
              rintro e x2 ⟨rfl, p2⟩
              replace p2 := Lib.hid p2
              clear ua
              go_wp2_with (fail)
              refine (rsmall_any na _).mono ?_
              rintro e w' ⟨rfl, rfl⟩
              go_wp2_with (fail)
              go_meet
              have e5 := er.out
              subst e5
              exact ⟨rfl, by rw [hu], p2.out⟩
            · have er : r8 = (0, r7.2) := by rw [hr8.out, hu]; rfl
              replace er := Lib.hid er
              rw [hu]
              go_wp2_with (fail)
              go_meet
              have e5 := er.out
              subst e5
              exact ⟨rfl, by rw [hu], hq.out⟩
          case rest =>
            obtain ⟨rfl, rfl, hcut⟩ := hcut
            clear hq
            have hq := Lib.hid hcut
            clear hcut
            generalize wc = W6 at *
            obtain ⟨N, hN⟩ : ∃ N, N = r8.1.toNat := ⟨_, rfl⟩
            obtain ⟨cn, hcn⟩ : ∃ cn, cn = r8.1 := ⟨_, rfl⟩
            obtain ⟨t0, ht0⟩ : ∃ t0, t0 = r8.2 := ⟨_, rfl⟩
            rewrite [← hcn] at hle8 hN ⊢
            have hmg2 := hmg.out; have hge2 := hge.out; have hgc2 := hgc.out
            rewrite [← hcn, ← ht0, ← hN] at hmg2 hge2
            rewrite [← hcn] at hgc2
            have hq2 := hq.out
            rewrite [← ht0] at hq2
            have hN2 : N ≤ 1099511627776 := by omega
            replace hmg2 := Lib.hid hmg2; replace hge2 := Lib.hid hge2; replace hgc2 := Lib.hid hgc2; replace hq2 := Lib.hid hq2; replace ht0 := Lib.hid ht0; replace hcn := Lib.hid hcn
            clear hmg hge hgc hq
            go_wp2_with (fail)
            go_loopw [12] (fun i wr => ∃ (k : Nat) (l1 : List Ent) (s1 : RS) (A1 : Option Addr) (cq : Nat), k ≤ N ∧ i = .int .i64 k ∧ RN w0 g s1 gm (⟨K, F, TT, r4.1, r4.2.1, r5.1, r6.1, r7.1, l1⟩ : Mg) A1 cq [] wr ∧ l1.length = k ∧ gEnts rSm N t0 = (l1 ++ (gEnts rSm (N - k) s1).1, (gEnts rSm (N - k) s1).2)) (fun i _ => N - (intOf i).toNat)
            case atStart => exact ⟨0, [], t0, none, 0, by omega, rfl, hq2.out, rfl, by simp⟩
            case round =>
              clear hq2
              revert wr
              intro Y hrel
              obtain ⟨k, l1, s1', A1, cq, hk2, rfl, hM, hlk, hg⟩ := hrel
              by_cases hgo : k < N ∧ ¬ left s1' = []
              · obtain ⟨hlt, h0⟩ := hgo
                obtain ⟨q, hq⟩ : ∃ q, N - k = q + 1 := ⟨N - k - 1, by omega⟩
                rewrite [hq, rEnts_go _ _ h0] at hg
                have hk1' : (k : Int) < cn := by omega
                obtain ⟨Ar, cr, hi⟩ := hM.rd
                have hle := RL.left hi
                have hne : (0 : Int) < ((left s1').length : Int) := by have := List.length_pos_iff.2 h0; omega
                obtain ⟨na, hna⟩ : ∃ x, x = (rdU s1').1 := ⟨_, rfl⟩
                obtain ⟨sa, hsa⟩ : ∃ x, x = (rdU s1').2 := ⟨_, rfl⟩
                obtain ⟨nb, hnb⟩ : ∃ x, x = (rdU sa).1 := ⟨_, rfl⟩
                obtain ⟨sb, hsb⟩ : ∃ x, x = (rdU sa).2 := ⟨_, rfl⟩
                obtain ⟨nc, hnc⟩ : ∃ x, x = (rdU sb).1 := ⟨_, rfl⟩
                obtain ⟨sc, hsc⟩ : ∃ x, x = (rdU sb).2 := ⟨_, rfl⟩
                obtain ⟨x1, hx1⟩ : ∃ x, x = smN na := ⟨_, rfl⟩
                obtain ⟨x2, hx2⟩ : ∃ x, x = smN nb := ⟨_, rfl⟩
                obtain ⟨x3, hx3⟩ : ∃ x, x = smN nc := ⟨_, rfl⟩
                obtain ⟨xl, hxl⟩ : ∃ x, x = (rdT sc).1 := ⟨_, rfl⟩
                obtain ⟨x4, hx4⟩ : ∃ x, x = sOf xl := ⟨_, rfl⟩
                obtain ⟨s5, hs5⟩ : ∃ x, x = (rdT sc).2 := ⟨_, rfl⟩
                have hg2 : gEnts rSm N t0 = ((l1 ++ [⟨x1, x2, x3, xl⟩]) ++ (gEnts rSm (N - (k + 1)) s5).1, (gEnts rSm (N - (k + 1)) s5).2) := by
                  rw [show N - (k + 1) = q from by omega, hg, List.append_assoc]
                  have e1 : gEnt rSm s1' = (⟨x1, x2, x3, xl⟩, s5) := by unfold gEnt; subst hs5 hxl hx3 hx2 hx1 hsc hnc hsb hnb hsa hna; simp only [rSm_fst, rSm_snd]
                  rw [e1]; rfl
                have ua := RN.step hM (fun A c hi => rUintR_any s1' hi)
                rewrite [← hna, ← hsa] at ua
                generalize hlL : (left s1').length = L at *
                replace hg2 := Lib.hid hg2
                replace hi := Lib.hid hi
                replace hlk := Lib.hid hlk
                replace hna := Lib.hid hna
                replace hsa := Lib.hid hsa
                replace hnb := Lib.hid hnb
                replace hsb := Lib.hid hsb
                replace hnc := Lib.hid hnc
                replace hsc := Lib.hid hsc
                replace hx1 := Lib.hid hx1
                replace hx2 := Lib.hid hx2
                replace hx3 := Lib.hid hx3
                replace hxl := Lib.hid hxl
                replace hx4 := Lib.hid hx4
                replace hs5 := Lib.hid hs5
                replace hM := Lib.hid hM
                replace hlL := Lib.hid hlL
                clear h0 hg
                go_wp2_with (fail)
                refine hle.mono ?_
                rintro e w' ⟨rfl, rfl⟩
                go_wp2_with (fail)
                refine ua.mono ?_
                rintro e y1 ⟨rfl, p1⟩
                replace p1 := Lib.hid p1
                clear ua hle hM
                go_wp2_with (fail)
                refine (rsmall_any na _).mono ?_
                rintro e w' ⟨rfl, rfl⟩
                rw [← hx1.out]
                have ub := RN.step p1.out (fun A c hi => rUintR_any sa hi)
                rewrite [← hnb.out, ← hsb.out] at ub
                go_wp2_with (fail)
                refine ub.mono ?_
                rintro e y2 ⟨rfl, p2⟩
                replace p2 := Lib.hid p2
                clear ub p1
                go_wp2_with (fail)
                refine (rsmall_any nb _).mono ?_
                rintro e w' ⟨rfl, rfl⟩
                rw [← hx2.out]
                have uc := RN.step p2.out (fun A c hi => rUintR_any sb hi)
                rewrite [← hnc.out, ← hsc.out] at uc
                go_wp2_with (fail)
                refine uc.mono ?_
                rintro e y3 ⟨rfl, p3⟩
                clear uc p2
                have h4 := p3.new #[.int .i64 x1, .int .i64 x2, .int .i64 x3, .string ⟨#[]⟩] 45
                have hkl := p3.ksLt
                replace p3 := Lib.hid p3; replace h4 := Lib.hid h4; replace hkl := Lib.hid hkl
                go_wp2_with (fail)
                refine (rsmall_any nc _).mono ?_
                rintro e w' ⟨rfl, rfl⟩
                rw [← hx3.out]
                have ud := RN.step h4.out (fun A c hi => rTextR_any sc hi)
                rewrite [← hxl.out, ← hs5.out, show strOf xl = x4 from hx4.out.symm] at ud
                clear p3
                go_wp2_with (fail)
                refine ud.mono ?_
                rintro e y4 ⟨rfl, h5⟩
                clear ud h4
                have fE := blkF (h5.ks _ (List.mem_cons_self ..)).1
                have e3 : y4.cell? ⟨y3.heap.size, 3, none⟩ = some (.string ⟨#[]⟩) := blkC (h5.ks _ (List.mem_cons_self ..)).1 3
                have h6 := h5.setHead (i := 3) (v := .string x4) hkl.out (by decide)
                obtain ⟨V0, hV0⟩ : ∃ V0, V0 = y4.setCell ⟨y3.heap.size, 3, none⟩ (.string x4) := ⟨_, rfl⟩
                rewrite [← hV0] at h6
                have hM : RN w0 g s5 gm (⟨K, F, TT, r4.1, r4.2.1, r5.1, r6.1, r7.1, l1⟩ : Mg) A1 cq [(y3.heap.size, #[.int .i64 x1, .int .i64 x2, .int .i64 x3, .string x4], 45)] V0 := h6
                replace h5 := Lib.hid h5
                clear h6
                go_upto_region 24 with (fail)
                rw [← hV0]
                clear hV0 fE e3 h5
                have hE := (hM.ks _ (List.mem_cons_self ..)).1
                dsimp only at hE
                have c0 := blkC hE 0; have c1 := blkC hE 1; have c2 := blkC hE 2; have c3 := blkC hE 3
                have hc8 : V0.cell? ⟨gm, 8, none⟩ = some (.slice A1 k cq) := (blkC hM.ms 8).trans (by simp [mCells, hlk.out])
                simp only [List.getElem?_toArray, List.getElem?_cons_zero, List.getElem?_cons_succ] at c0 c1 c2 c3
                have bb := (Below.refl _ V0).alloc (Nat.le_refl _) (.cells #[.int .i64 x1, .int .i64 x2, .int .i64 x3, .string x4] 45)
                have hN1 := ent_one V0 x1 x2 x3 xl
                rewrite [← hx4.out] at hN1
                have hM1 := hM.keep bb
                generalize hVV : V0.alloc (.cells #[.int .i64 x1, .int .i64 x2, .int .i64 x3, .string x4] 45) = V1 at *
                obtain ⟨A', c', V2, hrun, hcap, hown, hgr, hat⟩ := append_sl elemEnt encEnt_len encEnt_one (ty := 26) (d := 1) (n := k) (c := cq) (A := A1) (xs := l1) (by have := hM1.own; rewrite [show ((⟨K, F, TT, r4.1, r4.2.1, r5.1, r6.1, r7.1, l1⟩ : Mg)).l.length = k from hlk.out] at this; exact this) hM1.bel.size hN1 (by omega) (by omega)
                have hap := hM1.app (e := ⟨x1, x2, x3, xl⟩) (c' := c') (by rw [show ((⟨K, F, TT, r4.1, r4.2.1, r5.1, r6.1, r7.1, l1⟩ : Mg)).l.length = k from hlk.out]; exact hown) hgr hat
                rw [show ((⟨K, F, TT, r4.1, r4.2.1, r5.1, r6.1, r7.1, l1⟩ : Mg)).l.length + 1 = k + 1 from by rw [show ((⟨K, F, TT, r4.1, r4.2.1, r5.1, r6.1, r7.1, l1⟩ : Mg)).l.length = k from hlk.out]] at hap
                have hfz := blkF hap.1
                have hd8 := blkC hap.1 8
                simp only [mCells, List.getElem?_toArray, List.getElem?_cons_zero, List.getElem?_cons_succ] at hd8
                have lG := blkX hap.1
                have hM2 := Lib.hid hap.2.drop
                have hM2 := Lib.hid hap.2.drop
                clear hown hgr hat hcap hM1 hM hE hN1 bb hap
                go_wp2_with (fail)
                exact ⟨⟨k + 1, l1 ++ [⟨x1, x2, x3, xl⟩], s5, A', c', by omega, by go_num, hM2.out, by simp [hlk.out], hg2.out⟩, by simp [intOf]; omega⟩
              · have hen : gEnts rSm N t0 = (l1, s1') := by
                  rcases Nat.lt_or_ge k N with hlt | hge
                  · have h0 : left s1' = [] := Classical.byContradiction fun q => hgo ⟨hlt, q⟩
                    rw [hg, rEnts_stop _ _ h0]; simp
                  · obtain rfl : k = N := by omega
                    rw [hg, Nat.sub_self]; simp [gEnts]
                have hmg3 := hmg2.out; have hge3 := hge2.out; rewrite [hen] at hmg3 hge3; dsimp only at hmg3 hge3
                have hok : gOK rSm xs ↔ (s1' = some [] ∧ (k : Int) = cn ∧ encE (⟨K, F, TT, r4.1, r4.2.1, r5.1, r6.1, r7.1, l1⟩ : Mg) = 0) := by
                  unfold gOK
                  rw [hmg3, hge3, hgc2.out, show (((⟨K, F, TT, r4.1, r4.2.1, r5.1, r6.1, r7.1, l1⟩ : Mg)).l.length : Int) = (k : Int) from by rw [show ((⟨K, F, TT, r4.1, r4.2.1, r5.1, r6.1, r7.1, l1⟩ : Mg)).l.length = k from hlk]]
                  exact ⟨fun q => q.2, fun q => ⟨hk, q⟩⟩
                obtain ⟨Ar, cr, hi⟩ := hM.rd
                have hle := RL.left hi
                have hend := RL.end_ hi
                have hES : ES Y A1 l1.length l1 := SL.of_own encEnt_len hM.own rfl
                have hchk := rchk_any (⟨K, F, TT, r4.1, r4.2.1, r5.1, r6.1, r7.1, l1⟩ : Mg) A1 cq Y hES (by show l1.length ≤ _; omega)
                obtain ⟨M, hMM⟩ : ∃ M, M = (⟨K, F, TT, r4.1, r4.2.1, r5.1, r6.1, r7.1, l1⟩ : Mg) := ⟨_, rfl⟩
                rewrite [← hMM] at hok hmg3 hM hchk
                have hll : M.l.length = k := by rw [hMM]; exact hlk
                have hRR := hRk.out Y hM.bel
                have hbz := Lib.hid (kb0.out.trans (hM.bel.mono kb0.out.size))
                have hms := hM.ms; have hown := hM.own; have hgg := hM.ggm; have hbg := hM.bg
                have hbel := hM.bel
                have hc1 : ((k : Int) < cn ∧ ¬ 0 < ((left s1').length : Int)) ∨ ¬ (k : Int) < cn := by
                  rcases Nat.lt_or_ge k N with hlt | hge
                  · left; refine ⟨by omega, fun q => hgo ⟨hlt, fun e => ?_⟩⟩; rewrite [e] at q; simp at q
                  · right; omega
                simp only [mCells] at hms
                rewrite [hll] at hms hown hchk
                clear hg hgo hen hMM
                have z0' : Y.cell? ⟨gm, 0, none⟩ = some (.int .i64 M.k) := blkC hms 0
                have z1' : Y.cell? ⟨gm, 1, none⟩ = some (.int .i64 M.fr) := blkC hms 1
                have z2' : Y.cell? ⟨gm, 2, none⟩ = some (.int .i64 M.tt) := blkC hms 2
                have z3' : Y.cell? ⟨gm, 3, none⟩ = some (.int .i64 M.ro) := blkC hms 3
                have z4' : Y.cell? ⟨gm, 4, none⟩ = some (.int .i64 M.no) := blkC hms 4
                have z5' : Y.cell? ⟨gm, 5, none⟩ = some (.int .i64 M.sl) := blkC hms 5
                have z6' : Y.cell? ⟨gm, 6, none⟩ = some (.int .i64 M.nu) := blkC hms 6
                have z7' : Y.cell? ⟨gm, 7, none⟩ = some (.string (sOf M.v)) := blkC hms 7
                have z8' : Y.cell? ⟨gm, 8, none⟩ = some (.slice A1 k cq) := blkC hms 8
                have lG := blkX hms
                generalize hLL : (left s1').length = L at *
                rcases hc1 with ⟨hc1, hc2⟩ | hc1
                · have hc2n : ¬ 0 < L := by omega
                  rcases end_or s1' with he | he
                  · have hs0 := (end_zero s1').1 he
                    rewrite [he] at hend
                    by_cases hcn : (k : Int) = cn
                    · exact absurd hcn (by omega)
                    · have hde := rdec_no hxl (fun q => hcn (hok.1 q).2.1)
                      have hcn2 : ((k : Int) == cn) = false := by simp [hcn]
                      have hcn3 : ((k : Int) != cn) = true := by simp [hcn]
                      have hRR2 := hRR
                      have r0' : Y.cell? ⟨w.heap.size, 0, none⟩ = some (.int .i64 0) := blkC hRR2 0
                      have r1' : Y.cell? ⟨w.heap.size, 1, none⟩ = some (.int .i64 0) := blkC hRR2 1
                      have r2' : Y.cell? ⟨w.heap.size, 2, none⟩ = some (.int .i64 0) := blkC hRR2 2
                      have r3' : Y.cell? ⟨w.heap.size, 3, none⟩ = some (.int .i64 0) := blkC hRR2 3
                      have r4' : Y.cell? ⟨w.heap.size, 4, none⟩ = some (.int .i64 0) := blkC hRR2 4
                      have r5' : Y.cell? ⟨w.heap.size, 5, none⟩ = some (.int .i64 0) := blkC hRR2 5
                      have r6' : Y.cell? ⟨w.heap.size, 6, none⟩ = some (.int .i64 0) := blkC hRR2 6
                      have r7' : Y.cell? ⟨w.heap.size, 7, none⟩ = some (.string ⟨#[]⟩) := blkC hRR2 7
                      have r8' : Y.cell? ⟨w.heap.size, 8, none⟩ = some (.slice none 0 0) := blkC hRR2 8
                      have rf := blkF hRR2; have rx := blkX hRR2
                      replace hM := Lib.hid hM
                      replace hi := Lib.hid hi
                      replace hES := Lib.hid hES
                      replace hms := Lib.hid hms
                      replace hRR := Lib.hid hRR
                      replace hde := Lib.hid hde
                      replace hown := Lib.hid hown
                      replace hbel := Lib.hid hbel
                      replace hok := Lib.hid hok
                      replace hmg3 := Lib.hid hmg3
                      replace hs0 := Lib.hid hs0
                      replace he := Lib.hid he
                      replace hll := Lib.hid hll
                      replace hlk := Lib.hid hlk
                      replace hLL := Lib.hid hLL
                      replace hN := Lib.hid hN
                      replace hcn := Lib.hid hcn
                      clear hchk hRR2
                      go_wp2_with (fail)
                      refine hle.mono ?_
                      rintro e w' ⟨rfl, rfl⟩
                      go_wp2_with (fail)
                      refine hend.mono ?_
                      rintro e w' ⟨rfl, rfl⟩
                      go_wp2_with (fail)
                      refine bodyPost_ret (by simp [results, Tryz.results14, go_sem, *]; try with_reducible rfl) rfl ?_
                      exact DecTo.zero hde.out (by
                          repeat (refine Below.setCell ?_ (by simp) _)
                          exact hbz.out)
                  · have hde := rdec_no hxl (fun q => by have := (hok.1 q).1; rewrite [this] at he; exact absurd he (by decide))
                    rewrite [he] at hend
                    have hRR2 := hRR
                    have r0' : Y.cell? ⟨w.heap.size, 0, none⟩ = some (.int .i64 0) := blkC hRR2 0
                    have r1' : Y.cell? ⟨w.heap.size, 1, none⟩ = some (.int .i64 0) := blkC hRR2 1
                    have r2' : Y.cell? ⟨w.heap.size, 2, none⟩ = some (.int .i64 0) := blkC hRR2 2
                    have r3' : Y.cell? ⟨w.heap.size, 3, none⟩ = some (.int .i64 0) := blkC hRR2 3
                    have r4' : Y.cell? ⟨w.heap.size, 4, none⟩ = some (.int .i64 0) := blkC hRR2 4
                    have r5' : Y.cell? ⟨w.heap.size, 5, none⟩ = some (.int .i64 0) := blkC hRR2 5
                    have r6' : Y.cell? ⟨w.heap.size, 6, none⟩ = some (.int .i64 0) := blkC hRR2 6
                    have r7' : Y.cell? ⟨w.heap.size, 7, none⟩ = some (.string ⟨#[]⟩) := blkC hRR2 7
                    have r8' : Y.cell? ⟨w.heap.size, 8, none⟩ = some (.slice none 0 0) := blkC hRR2 8
                    have rf := blkF hRR2; have rx := blkX hRR2
                    replace hM := Lib.hid hM
                    replace hi := Lib.hid hi
                    replace hES := Lib.hid hES
                    replace hms := Lib.hid hms
                    replace hRR := Lib.hid hRR
                    replace hde := Lib.hid hde
                    replace hown := Lib.hid hown
                    replace hbel := Lib.hid hbel
                    replace hok := Lib.hid hok
                    replace hmg3 := Lib.hid hmg3
                    replace he := Lib.hid he
                    replace hll := Lib.hid hll
                    replace hlk := Lib.hid hlk
                    replace hLL := Lib.hid hLL
                    replace hN := Lib.hid hN
                    clear hchk hRR2 z0' z1' z2' z3' z4' z5' z6' z7' z8'
                    go_wp2_with (fail)
                    refine hle.mono ?_
                    rintro e w' ⟨rfl, rfl⟩
                    go_wp2_with (fail)
                    refine hend.mono ?_
                    rintro e w' ⟨rfl, rfl⟩
                    go_wp2_with (fail)
                    refine bodyPost_ret (by simp [results, Tryz.results14, go_sem, *]; try with_reducible rfl) rfl ?_
                    exact DecTo.zero hde.out (by
                        repeat (refine Below.setCell ?_ (by simp) _)
                        exact hbz.out)
                · clear hle
                  rcases end_or s1' with he | he
                  · have hs0 := (end_zero s1').1 he
                    rewrite [he] at hend
                    by_cases hcn : (k : Int) = cn
                    · by_cases hc0 : encE M = 0
                      · have hde := rdec_ok hxl (hok.2 ⟨hs0, hcn, hc0⟩)
                        rewrite [hmg3] at hde
                        rewrite [hc0] at hchk
                        have hcn2 : ((k : Int) == cn) = true := by simp [hcn]
                        have hcn3 : ((k : Int) != cn) = false := by simp [hcn]
                        replace hM := Lib.hid hM
                        replace hi := Lib.hid hi
                        replace hES := Lib.hid hES
                        replace hms := Lib.hid hms
                        replace hRR := Lib.hid hRR
                        replace hde := Lib.hid hde
                        replace hown := Lib.hid hown
                        replace hbel := Lib.hid hbel
                        replace hok := Lib.hid hok
                        replace hmg3 := Lib.hid hmg3
                        replace hs0 := Lib.hid hs0
                        replace he := Lib.hid he
                        replace hll := Lib.hid hll
                        replace hlk := Lib.hid hlk
                        replace hLL := Lib.hid hLL
                        replace hN := Lib.hid hN
                        replace hcn := Lib.hid hcn
                        clear hc0
                        go_wp2_with (fail)
                        refine hend.mono ?_
                        rintro e w' ⟨rfl, rfl⟩
                        go_wp2_with (fail)
                        refine hchk.mono ?_
                        rintro e v2 ⟨rfl, b2⟩
                        have hms2 := (b2.block _ (blkX hms.out)).trans hms.out
                        have hRR2 := (b2.block _ (blkX hRR.out)).trans hRR.out
                        have hown2 := own_keep2 hown.out b2
                        clear z0' z1' z2' z3' z4' z5' z6' z7' z8' lG
                        have z0' : v2.cell? ⟨gm, 0, none⟩ = some (.int .i64 M.k) := blkC hms2 0
                        have z1' : v2.cell? ⟨gm, 1, none⟩ = some (.int .i64 M.fr) := blkC hms2 1
                        have z2' : v2.cell? ⟨gm, 2, none⟩ = some (.int .i64 M.tt) := blkC hms2 2
                        have z3' : v2.cell? ⟨gm, 3, none⟩ = some (.int .i64 M.ro) := blkC hms2 3
                        have z4' : v2.cell? ⟨gm, 4, none⟩ = some (.int .i64 M.no) := blkC hms2 4
                        have z5' : v2.cell? ⟨gm, 5, none⟩ = some (.int .i64 M.sl) := blkC hms2 5
                        have z6' : v2.cell? ⟨gm, 6, none⟩ = some (.int .i64 M.nu) := blkC hms2 6
                        have z7' : v2.cell? ⟨gm, 7, none⟩ = some (.string (sOf M.v)) := blkC hms2 7
                        have z8' : v2.cell? ⟨gm, 8, none⟩ = some (.slice A1 k cq) := blkC hms2 8
                        have lG := blkX hms2
                        have hRne : ∀ k, rowOf A1 = some k → k ≠ w.heap.size := fun k hk e => by have := (own_row hown2 k hk).1; omega
                        have r0' : v2.cell? ⟨w.heap.size, 0, none⟩ = some (.int .i64 0) := blkC hRR2 0
                        have r1' : v2.cell? ⟨w.heap.size, 1, none⟩ = some (.int .i64 0) := blkC hRR2 1
                        have r2' : v2.cell? ⟨w.heap.size, 2, none⟩ = some (.int .i64 0) := blkC hRR2 2
                        have r3' : v2.cell? ⟨w.heap.size, 3, none⟩ = some (.int .i64 0) := blkC hRR2 3
                        have r4' : v2.cell? ⟨w.heap.size, 4, none⟩ = some (.int .i64 0) := blkC hRR2 4
                        have r5' : v2.cell? ⟨w.heap.size, 5, none⟩ = some (.int .i64 0) := blkC hRR2 5
                        have r6' : v2.cell? ⟨w.heap.size, 6, none⟩ = some (.int .i64 0) := blkC hRR2 6
                        have r7' : v2.cell? ⟨w.heap.size, 7, none⟩ = some (.string ⟨#[]⟩) := blkC hRR2 7
                        have r8' : v2.cell? ⟨w.heap.size, 8, none⟩ = some (.slice none 0 0) := blkC hRR2 8
                        have rf := blkF hRR2; have rx := blkX hRR2
                        have hbz2 := Lib.hid (hbz.out.trans (b2.mono hbz.out.size))
                        replace hown2 := Lib.hid hown2; replace hms2 := Lib.hid hms2; replace hRne := Lib.hid hRne
                        clear b2 hchk hend hRR2
                        go_wp2_with (fail)
                        refine bodyPost_ret (by simp [results, Tryz.results14, go_sem, *]; try with_reducible rfl) rfl ?_
                        refine ⟨A1, cq, by rw [hde.out]; simp only [mCells, hll.out], ?_, (by
                            iterate 9 (refine Below.setCell ?_ (by simp) _)
                            exact hbz2.out)⟩
                        rw [hde.out, hll.out]
                        refine World.ownsRow.mono (base := w0.heap.size) ?_ (by omega)
                        iterate 9 (refine own_set ?_ hRne.out _ _)
                        exact hown2.out
                      · have hde := rdec_no hxl (fun q => hc0 (hok.1 q).2.2)
                        have hcn2 : ((k : Int) == cn) = true := by simp [hcn]
                        have hcn3 : ((k : Int) != cn) = false := by simp [hcn]
                        generalize hz : encE M = z at *
                        have hz2 : (z == 0) = false := by simp [hc0]
                        replace hM := Lib.hid hM
                        replace hi := Lib.hid hi
                        replace hES := Lib.hid hES
                        replace hms := Lib.hid hms
                        replace hRR := Lib.hid hRR
                        replace hde := Lib.hid hde
                        replace hown := Lib.hid hown
                        replace hbel := Lib.hid hbel
                        replace hok := Lib.hid hok
                        replace hmg3 := Lib.hid hmg3
                        replace hs0 := Lib.hid hs0
                        replace he := Lib.hid he
                        replace hll := Lib.hid hll
                        replace hlk := Lib.hid hlk
                        replace hLL := Lib.hid hLL
                        replace hN := Lib.hid hN
                        replace hcn := Lib.hid hcn
                        replace hz := Lib.hid hz
                        go_wp2_with (fail)
                        refine hend.mono ?_
                        rintro e w' ⟨rfl, rfl⟩
                        go_wp2_with (fail)
                        refine hchk.mono ?_
                        rintro e v2 ⟨rfl, b2⟩
                        have hRR2 := (b2.block _ (blkX hRR.out)).trans hRR.out
                        clear z0' z1' z2' z3' z4' z5' z6' z7' z8' lG
                        have r0' : v2.cell? ⟨w.heap.size, 0, none⟩ = some (.int .i64 0) := blkC hRR2 0
                        have r1' : v2.cell? ⟨w.heap.size, 1, none⟩ = some (.int .i64 0) := blkC hRR2 1
                        have r2' : v2.cell? ⟨w.heap.size, 2, none⟩ = some (.int .i64 0) := blkC hRR2 2
                        have r3' : v2.cell? ⟨w.heap.size, 3, none⟩ = some (.int .i64 0) := blkC hRR2 3
                        have r4' : v2.cell? ⟨w.heap.size, 4, none⟩ = some (.int .i64 0) := blkC hRR2 4
                        have r5' : v2.cell? ⟨w.heap.size, 5, none⟩ = some (.int .i64 0) := blkC hRR2 5
                        have r6' : v2.cell? ⟨w.heap.size, 6, none⟩ = some (.int .i64 0) := blkC hRR2 6
                        have r7' : v2.cell? ⟨w.heap.size, 7, none⟩ = some (.string ⟨#[]⟩) := blkC hRR2 7
                        have r8' : v2.cell? ⟨w.heap.size, 8, none⟩ = some (.slice none 0 0) := blkC hRR2 8
                        have rf := blkF hRR2; have rx := blkX hRR2
                        have hbz2 := Lib.hid (hbz.out.trans (b2.mono hbz.out.size))
                        clear b2 hchk hend hRR2
                        go_wp2_with (fail)
                        refine bodyPost_ret (by simp [results, Tryz.results14, go_sem, *]; try with_reducible rfl) rfl ?_
                        exact DecTo.zero hde.out (by
                            repeat (refine Below.setCell ?_ (by simp) _)
                            exact hbz2.out)
                    · have hde := rdec_no hxl (fun q => hcn (hok.1 q).2.1)
                      have hcn2 : ((k : Int) == cn) = false := by simp [hcn]
                      have hcn3 : ((k : Int) != cn) = true := by simp [hcn]
                      have hRR2 := hRR
                      have r0' : Y.cell? ⟨w.heap.size, 0, none⟩ = some (.int .i64 0) := blkC hRR2 0
                      have r1' : Y.cell? ⟨w.heap.size, 1, none⟩ = some (.int .i64 0) := blkC hRR2 1
                      have r2' : Y.cell? ⟨w.heap.size, 2, none⟩ = some (.int .i64 0) := blkC hRR2 2
                      have r3' : Y.cell? ⟨w.heap.size, 3, none⟩ = some (.int .i64 0) := blkC hRR2 3
                      have r4' : Y.cell? ⟨w.heap.size, 4, none⟩ = some (.int .i64 0) := blkC hRR2 4
                      have r5' : Y.cell? ⟨w.heap.size, 5, none⟩ = some (.int .i64 0) := blkC hRR2 5
                      have r6' : Y.cell? ⟨w.heap.size, 6, none⟩ = some (.int .i64 0) := blkC hRR2 6
                      have r7' : Y.cell? ⟨w.heap.size, 7, none⟩ = some (.string ⟨#[]⟩) := blkC hRR2 7
                      have r8' : Y.cell? ⟨w.heap.size, 8, none⟩ = some (.slice none 0 0) := blkC hRR2 8
                      have rf := blkF hRR2; have rx := blkX hRR2
                      replace hM := Lib.hid hM
                      replace hi := Lib.hid hi
                      replace hES := Lib.hid hES
                      replace hms := Lib.hid hms
                      replace hRR := Lib.hid hRR
                      replace hde := Lib.hid hde
                      replace hown := Lib.hid hown
                      replace hbel := Lib.hid hbel
                      replace hok := Lib.hid hok
                      replace hmg3 := Lib.hid hmg3
                      replace hs0 := Lib.hid hs0
                      replace he := Lib.hid he
                      replace hll := Lib.hid hll
                      replace hlk := Lib.hid hlk
                      replace hLL := Lib.hid hLL
                      replace hN := Lib.hid hN
                      replace hcn := Lib.hid hcn
                      clear hchk hRR2
                      go_wp2_with (fail)
                      refine hend.mono ?_
                      rintro e w' ⟨rfl, rfl⟩
                      go_wp2_with (fail)
                      refine bodyPost_ret (by simp [results, Tryz.results14, go_sem, *]; try with_reducible rfl) rfl ?_
                      exact DecTo.zero hde.out (by
                          repeat (refine Below.setCell ?_ (by simp) _)
                          exact hbz.out)
                  · have hde := rdec_no hxl (fun q => by have := (hok.1 q).1; rewrite [this] at he; exact absurd he (by decide))
                    rewrite [he] at hend
                    have hRR2 := hRR
                    have r0' : Y.cell? ⟨w.heap.size, 0, none⟩ = some (.int .i64 0) := blkC hRR2 0
                    have r1' : Y.cell? ⟨w.heap.size, 1, none⟩ = some (.int .i64 0) := blkC hRR2 1
                    have r2' : Y.cell? ⟨w.heap.size, 2, none⟩ = some (.int .i64 0) := blkC hRR2 2
                    have r3' : Y.cell? ⟨w.heap.size, 3, none⟩ = some (.int .i64 0) := blkC hRR2 3
                    have r4' : Y.cell? ⟨w.heap.size, 4, none⟩ = some (.int .i64 0) := blkC hRR2 4
                    have r5' : Y.cell? ⟨w.heap.size, 5, none⟩ = some (.int .i64 0) := blkC hRR2 5
                    have r6' : Y.cell? ⟨w.heap.size, 6, none⟩ = some (.int .i64 0) := blkC hRR2 6
                    have r7' : Y.cell? ⟨w.heap.size, 7, none⟩ = some (.string ⟨#[]⟩) := blkC hRR2 7
                    have r8' : Y.cell? ⟨w.heap.size, 8, none⟩ = some (.slice none 0 0) := blkC hRR2 8
                    have rf := blkF hRR2; have rx := blkX hRR2
                    replace hM := Lib.hid hM
                    replace hi := Lib.hid hi
                    replace hES := Lib.hid hES
                    replace hms := Lib.hid hms
                    replace hRR := Lib.hid hRR
                    replace hde := Lib.hid hde
                    replace hown := Lib.hid hown
                    replace hbel := Lib.hid hbel
                    replace hok := Lib.hid hok
                    replace hmg3 := Lib.hid hmg3
                    replace he := Lib.hid he
                    replace hll := Lib.hid hll
                    replace hlk := Lib.hid hlk
                    replace hLL := Lib.hid hLL
                    replace hN := Lib.hid hN
                    clear hchk hRR2 z0' z1' z2' z3' z4' z5' z6' z7' z8'
                    go_wp2_with (fail)
                    refine hend.mono ?_
                    rintro e w' ⟨rfl, rfl⟩
                    go_wp2_with (fail)
                    refine bodyPost_ret (by simp [results, Tryz.results14, go_sem, *]; try with_reducible rfl) rfl ?_
                    exact DecTo.zero hde.out (by
                        repeat (refine Below.setCell ?_ (by simp) _)
                        exact hbz.out)
end Go.Proofs.YtlinjanflenljaaGreatDoor
