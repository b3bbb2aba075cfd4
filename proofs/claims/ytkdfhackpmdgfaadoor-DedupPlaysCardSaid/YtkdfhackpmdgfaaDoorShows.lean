/- What shows says. -/
import Derived.Test.YtkdfhackpmdgfaaDoorRTb
namespace Go.Proofs.YtkdfhackpmdgfaaDoor
open Go.RowKit Go.Shelf
set_option linter.unusedSimpArgs false
set_option linter.unusedVariables false
set_option linter.unusedSectionVars false
set_option maxRecDepth 10000
set_option maxHeartbeats 16000000 in
theorem shows_any {base base' D E : Nat} {size : Int} {P Rl : List En} {w0 w0' w : World} (hT : Tb base w0 D size P w) (hR : TbR base' w0' E size Rl w) (hS : Same P Rl) (h0 : 0 ≤ size) (y : Ef) :
    Calls Tryd.prog 15 #[.pointer (some ⟨D, 0, none⟩), .pointer (some ⟨E, 0, none⟩), .agg #[.int .i64 y.1, .int .i64 y.2.1, .int .i64 y.2.2]] w fun e w' => e = .returned (.bool true) ∧ Below w.heap.size w w' := by
  have hgr := (hS.get y).1
  have hgk := (hS.get y).2
  have hhb : hasB Rl y = hasB P y := by unfold hasB; rw [hS.look]
  have hln := hS.len
  have hal := hS.all
  have hlb : P.length ≤ 2048 := by obtain ⟨A, c, ht⟩ := hT.tab; have := ht.le; have := ht.sz; omega
  obtain ⟨A, c, hRt⟩ := hR.tab
  clear hR hS
  obtain ⟨bv, hbv⟩ : ∃ b, b = hasB P y := ⟨_, rfl⟩
  obtain ⟨kv, hkv⟩ : ∃ b, b = getK P y := ⟨_, rfl⟩
  obtain ⟨r, hr⟩ : ∃ b, b = getR P y := ⟨_, rfl⟩
  have c1 := fun (V : World) (h : Tb base w0 D size P V) => h.get y
  have c2 := fun (V : World) (h : TabR base' E size A c Rl V) => rget_any h y
  have c3 := fun (V : World) (h : Tb base w0 D size P V) => h.key y
  have c4 := fun (V : World) (h : TabR base' E size A c Rl V) => rkey_any h y
  simp only [← hgr, ← hgk, hhb, ← hbv, ← hkv, ← hr] at c1 c2 c3 c4
  obtain ⟨y1, y2, y3⟩ := y
  obtain ⟨r1, r2, r3⟩ := r
  simp only at c1 c2 c3 c4 ⊢
  clear hgr hgk hhb hbv hkv hr
  have kb := (Below.refl _ w).alloc (Nat.le_refl _) (.cells #[.int .i64 y1, .int .i64 y2, .int .i64 y3] 23)
  have hb0 := hpNew w (.cells #[.int .i64 y1, .int .i64 y2, .int .i64 y3] 23)
  have T := Lib.hid (hT.below kb); have R := Lib.hid (hRt.below kb); have K := Lib.hid kb; have hb := Lib.hid hb0
  clear hT hRt kb hb0
  have hlR : Rl.length ≤ 2048 := by omega
  replace hal := Lib.hid hal; replace hln := Lib.hid hln
  replace c1 := Lib.hid c1; replace c2 := Lib.hid c2; replace c3 := Lib.hid c3; replace c4 := Lib.hid c4
  have z0 := blkC hb.out 0; have z1 := blkC hb.out 1; have z2 := blkC hb.out 2
  simp only [List.getElem?_toArray, List.getElem?_cons_zero, List.getElem?_cons_succ] at z0 z1 z2
  have hg := c1.out _ T.out
  go_enter Tryd.func15, Tryd.ntmps15
  go_wp2_with (fail)
  clear z0 z1 z2
  generalize w.alloc (.cells #[.int .i64 y1, .int .i64 y2, .int .i64 y3] 23) = w1 at *
  refine hg.mono ?_
  rintro e w2 ⟨rfl, -, b2⟩
  clear hg
  have TX := Lib.hid (T.out.below b2)
  clear T; have T := TX; clear TX
  have RX := Lib.hid (R.out.below b2)
  clear R; have R := RX; clear RX
  have KX := Lib.hid (K.out.trans (b2.mono K.out.size))
  clear K; have K := KX; clear KX
  have hbX := Lib.hid ((b2.block _ (blkX hb.out)).trans hb.out)
  clear hb; have hb := hbX; clear hbX
  clear b2
  have bq := (Below.refl _ w2).alloc (Nat.le_refl _) (.cells #[.int .i64 r1, .int .i64 r2, .string r3] 43)
  have hp := Lib.hid (hpNew w2 (.cells #[.int .i64 r1, .int .i64 r2, .string r3] 43))
  have TX := Lib.hid (T.out.below bq)
  clear T; have T := TX; clear TX
  have RX := Lib.hid (R.out.below bq)
  clear R; have R := RX; clear RX
  have KX := Lib.hid (K.out.trans (bq.mono K.out.size))
  clear K; have K := KX; clear KX
  have hbX := Lib.hid ((bq.block _ (blkX hb.out)).trans hb.out)
  clear hb; have hb := hbX; clear hbX
  clear bq
  have z0 := blkC hb.out 0; have z1 := blkC hb.out 1; have z2 := blkC hb.out 2
  simp only [List.getElem?_toArray, List.getElem?_cons_zero, List.getElem?_cons_succ] at z0 z1 z2
  have hg := c2.out _ R.out
  go_wp2_with (fail)
  clear z0 z1 z2
  generalize w2.alloc (.cells #[.int .i64 r1, .int .i64 r2, .string r3] 43) = w3 at *
  refine hg.mono ?_
  rintro e w4 ⟨rfl, b4⟩
  clear hg
  have TX := Lib.hid (T.out.below b4)
  clear T; have T := TX; clear TX
  have RX := Lib.hid (R.out.below b4)
  clear R; have R := RX; clear RX
  have KX := Lib.hid (K.out.trans (b4.mono K.out.size))
  clear K; have K := KX; clear KX
  have hbX := Lib.hid ((b4.block _ (blkX hb.out)).trans hb.out)
  clear hb; have hb := hbX; clear hbX
  have hpX := Lib.hid ((b4.block _ (blkX hp.out)).trans hp.out)
  clear hp; have hp := hpX; clear hpX
  clear b4
  have bq := (Below.refl _ w4).alloc (Nat.le_refl _) (.cells #[.int .i64 r1, .int .i64 r2, .string r3] 43)
  have hq := Lib.hid (hpNew w4 (.cells #[.int .i64 r1, .int .i64 r2, .string r3] 43))
  have TX := Lib.hid (T.out.below bq)
  clear T; have T := TX; clear TX
  have RX := Lib.hid (R.out.below bq)
  clear R; have R := RX; clear RX
  have KX := Lib.hid (K.out.trans (bq.mono K.out.size))
  clear K; have K := KX; clear KX
  have hbX := Lib.hid ((bq.block _ (blkX hb.out)).trans hb.out)
  clear hb; have hb := hbX; clear hbX
  have hpX := Lib.hid ((bq.block _ (blkX hp.out)).trans hp.out)
  clear hp; have hp := hpX; clear hpX
  clear bq
  have z0 := blkC hb.out 0; have z1 := blkC hb.out 1; have z2 := blkC hb.out 2
  simp only [List.getElem?_toArray, List.getElem?_cons_zero, List.getElem?_cons_succ] at z0 z1 z2
  have hg := c3.out _ T.out
  go_wp2_with (fail)
  clear z0 z1 z2
  generalize w4.alloc (.cells #[.int .i64 r1, .int .i64 r2, .string r3] 43) = w5 at *
  refine hg.mono ?_
  rintro e w6 ⟨rfl, -, b6⟩
  clear hg
  have TX := Lib.hid (T.out.below b6)
  clear T; have T := TX; clear TX
  have RX := Lib.hid (R.out.below b6)
  clear R; have R := RX; clear RX
  have KX := Lib.hid (K.out.trans (b6.mono K.out.size))
  clear K; have K := KX; clear KX
  have hbX := Lib.hid ((b6.block _ (blkX hb.out)).trans hb.out)
  clear hb; have hb := hbX; clear hbX
  have hpX := Lib.hid ((b6.block _ (blkX hp.out)).trans hp.out)
  clear hp; have hp := hpX; clear hpX
  have hqX := Lib.hid ((b6.block _ (blkX hq.out)).trans hq.out)
  clear hq; have hq := hqX; clear hqX
  clear b6
  have z0 := blkC hb.out 0; have z1 := blkC hb.out 1; have z2 := blkC hb.out 2
  simp only [List.getElem?_toArray, List.getElem?_cons_zero, List.getElem?_cons_succ] at z0 z1 z2
  have hg := c4.out _ R.out
  go_wp2_with (fail)
  clear z0 z1 z2
  refine hg.mono ?_
  rintro e w7 ⟨rfl, b7⟩
  clear hg
  have TX := Lib.hid (T.out.below b7)
  clear T; have T := TX; clear TX
  have RX := Lib.hid (R.out.below b7)
  clear R; have R := RX; clear RX
  have KX := Lib.hid (K.out.trans (b7.mono K.out.size))
  clear K; have K := KX; clear KX
  have hbX := Lib.hid ((b7.block _ (blkX hb.out)).trans hb.out)
  clear hb; have hb := hbX; clear hbX
  have hpX := Lib.hid ((b7.block _ (blkX hp.out)).trans hp.out)
  clear hp; have hp := hpX; clear hpX
  have hqX := Lib.hid ((b7.block _ (blkX hq.out)).trans hq.out)
  clear hq; have hq := hqX; clear hqX
  clear b7
  have p0 := blkC hp.out 0; have p1 := blkC hp.out 1; have p2 := blkC hp.out 2
  simp only [List.getElem?_toArray, List.getElem?_cons_zero, List.getElem?_cons_succ] at p0 p1 p2
  have q0 := blkC hq.out 0; have q1 := blkC hq.out 1; have q2 := blkC hq.out 2
  simp only [List.getElem?_toArray, List.getElem?_cons_zero, List.getElem?_cons_succ] at q0 q1 q2
  have hg := T.out.all
  go_wp2_with (fail)
  clear p0 p1 p2 q0 q1 q2 hp hq hb
  refine hg.mono ?_
  rintro e w8 ⟨B1, m1, d1, rfl, rfl, L1, -, -, b8⟩
  replace L1 := Lib.hid L1
  clear hg
  have TX := Lib.hid (T.out.below b8)
  clear T; have T := TX; clear TX
  have RX := Lib.hid (R.out.below b8)
  clear R; have R := RX; clear RX
  have KX := Lib.hid (K.out.trans (b8.mono K.out.size))
  clear K; have K := KX; clear KX
  clear b8
  have hg := rall_any R.out
  go_wp2_with (fail)
  refine hg.mono ?_
  rintro e w9 ⟨B2, d2, rfl, hO⟩
  have b9 := hO.bel
  have L2 := Lib.hid hO.es
  clear hg hO
  have TX := Lib.hid (T.out.below b9)
  clear T; have T := TX; clear TX
  have RX := Lib.hid (R.out.below b9)
  clear R; have R := RX; clear RX
  have KX := Lib.hid (K.out.trans (b9.mono K.out.size))
  clear K; have K := KX; clear KX
  have L1X := Lib.hid (SL.keep L1.out b9)
  clear L1; have L1 := L1X; clear L1X
  clear b9
  have hg := equal_any B1 B2 P.length d1 Rl.length d2 _ _ _ L1.out L2.out (by omega) (by omega)
  rw [decide_eq_true hal.out] at hg
  clear L1 L2
  go_wp2_with (fail)
  refine hg.mono ?_
  rintro e w10 ⟨rfl, b10⟩
  clear hg
  have TX := Lib.hid (T.out.below b10)
  clear T; have T := TX; clear TX
  have RX := Lib.hid (R.out.below b10)
  clear R; have R := RX; clear RX
  have KX := Lib.hid (K.out.trans (b10.mono K.out.size))
  clear K; have K := KX; clear KX
  clear b10
  have hg := T.out.len
  go_wp2_with (fail)
  refine hg.mono ?_
  rintro e w10 ⟨rfl, rfl⟩
  clear hg
  have hg := rlen_any R.out
  rw [← hln.out] at hg
  go_wp2_with (fail)
  refine hg.mono ?_
  rintro e w10 ⟨rfl, rfl⟩
  clear hg
  have hg := T.out.room h0
  go_wp2_with (fail)
  refine hg.mono ?_
  rintro e w11 ⟨rfl, -, b11⟩
  clear hg
  have RX := Lib.hid (R.out.below b11)
  clear R; have R := RX; clear RX
  have KX := Lib.hid (K.out.trans (b11.mono K.out.size))
  clear K; have K := KX; clear KX
  clear b11 T
  have hg := rroom_any R.out h0
  rw [← hln.out] at hg
  go_wp2_with (fail)
  refine hg.mono ?_
  rintro e w12 ⟨rfl, b12⟩
  clear hg
  have KX := Lib.hid (K.out.trans (b12.mono K.out.size))
  clear K; have K := KX; clear KX
  clear b12
  go_wp2_with (fail)
  go_ret
  exact ⟨rfl, K.out⟩
end Go.Proofs.YtkdfhackpmdgfaaDoor
