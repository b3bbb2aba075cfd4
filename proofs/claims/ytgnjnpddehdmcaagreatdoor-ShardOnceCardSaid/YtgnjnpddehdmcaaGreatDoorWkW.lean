/- works. -/
import Derived.Test.YtgnjnpddehdmcaaGreatDoorWkP
namespace Go.Proofs.YtgnjnpddehdmcaaGreatDoor
open Go.RowKit Go.Shelf
set_option linter.unusedSimpArgs false
set_option linter.unusedVariables false
set_option linter.unusedSectionVars false
set_option maxRecDepth 10000
section
attribute [-go_sem] Instr.loadAt Instr.storeAt
attribute [local go_sem] loadAt_other storeAt_other
set_option maxHeartbeats 16000000 in
theorem eff_any (a b c d : Int) (w : World) : Calls Tryz.prog 16 #[.int .i64 a, .int .i64 b, .int .i64 c, .int .i64 d] w fun e w' => e = .returned (.agg (cdV (cdE a b c d))) ∧ Below w.heap.size w w' := by
 have hst := cd_store (cdE a b c d) w w.heap.size rfl
 simp only [cdV, cdE, sC, noText] at hst
 obtain ⟨W2, hW2⟩ : ∃ W, W = w.alloc (.cells (cdV (cdE a b c d)) 40) := ⟨_, rfl⟩
 have kb : Below w.heap.size w W2 := by rw [hW2]; exact (Below.refl _ _).alloc (Nat.le_refl _) _
 have b2 : W2.heap[w.heap.size]? = some (.cells (cdV (cdE a b c d)) 40 (0, 0)) := by rw [hW2]; exact hpNew _ _
 have hld := cd_load b2
 simp only [cdV, cdE, sC, noText] at hW2
 rw [← hW2] at hst
 replace kb := Lh kb; replace b2 := Lh b2; replace hW2 := Lh hW2
 have hlv : (loadVar 40 ⟨w.heap.size, 0, none⟩).run Tryz.prog W2 = .ok (.agg (cdV (cdE a b c d))) W2 := by have q := cd_load b2.out; simpa only [Instr.loadAt, Instr.sureAddr, Sem.run_bind, Sem.run_pure, Result.andThen] using q
 replace hlv := Lh hlv
 go_enter Tryz.func16, Tryz.ntmps16
 go_wp2_with (fail)
 refine bodyPost_ret (by simp only [results, Tryz.results16]; simp only [Array.mapM_eq_mapM_toList]; simp [asAddr, hlv.out, Sem.run_bind, Sem.run_pure, Result.andThen]; rfl) rfl ?_
 exact ⟨rfl, kb.out⟩
end
theorem ShTo.bel {base : Nat} {p p' : Pl} {x x' : Sh} {v w w' : World} (ht : ShTo base p p' x' w w') (h : ShW base p x w) (hv : Below base v w) : Below base v w' := Chg.belowAfter hv ht.chg (Nat.le_of_lt (Nat.lt_of_le_of_lt h.ge h.lt)) fun k hk q => by have := (h.foot_lt k q).1; omega
set_option maxHeartbeats 16000000 in
theorem works_any (v : World) : Calls Tryz.prog 5 #[] v fun e w' => e = .returned (.bool true) ∧ Below v.heap.size v w' := by
 have hN := shNew_any 1 (by omega) (by omega) v
 go_enter Tryz.func5, Tryz.ntmps5
 go_wp2_with (fail)
 refine hN.mono ?_
 rintro e V1 ⟨p, rfl, h1, k1⟩
 clear hN
 obtain ⟨V2, hV2⟩ : ∃ W, W = V1.alloc (.cells #[.string ⟨#[99]⟩] 9) := ⟨_, rfl⟩
 have b2 : Below V1.heap.size V1 V2 := by rw [hV2]; exact (Below.refl _ _).alloc (Nat.le_refl _) _
 have l2 : V2.heap[V1.heap.size]? = some (.cells #[.string ⟨#[99]⟩] 9 (0, 0)) := by rw [hV2]; exact hpNew _ _
 have z2 : V2.heap.size = V1.heap.size + 1 := by rw [hV2]; simp
 obtain ⟨V3, hV3⟩ : ∃ W, W = V2.alloc (.cells #[.int .i64 5, .int .i64 0, .int .i64 0, .int .i64 0, .int .i64 10] 58) := ⟨_, rfl⟩
 have b3 : Below V2.heap.size V2 V3 := by rw [hV3]; exact (Below.refl _ _).alloc (Nat.le_refl _) _
 have l3 : V3.heap[V1.heap.size + 1]? = some (.cells #[.int .i64 5, .int .i64 0, .int .i64 0, .int .i64 0, .int .i64 10] 58 (0, 0)) := by rw [hV3, ← z2]; exact hpNew _ _
 have l2' := (b3.block _ (blkX l2)).trans l2
 have h3 := (h1.below b2).below b3
 have k3 := (k1.trans (b2.mono k1.size)).trans (b3.mono (Nat.le_trans k1.size b2.size))
 have ho := shOwn_any h3 k3.size (by show 0 ≤ 5000; omega) ⟨#[97]⟩ ⟨#[109]⟩ (by constructor <;> decide +kernel) (some ⟨V1.heap.size, 0, none⟩) 1 1 [sC] (some ⟨V1.heap.size + 1, 0, none⟩) 1 1 [(5, 0, 0, 0, 10)] (ks_one l2') (sl_one encC_len l3 rfl) (by omega) (by omega) (by intro k hk; simp at hk; subst hk; decide +kernel) (fun _ k hk => by injection hk with hk; subst hk; exact h3.not_foot l2' (by decide) (by decide) (by decide) (by decide) (by decide)) (fun _ k hk => by injection hk with hk; subst hk; exact h3.not_foot l3 (by decide) (by decide) (by decide) (by decide) (by decide)) (fun a ha => by cases ha)
 rw [show ((⟨#[97]⟩ : ByteArray), (⟨#[109]⟩ : ByteArray)) = rAM from rfl, own_e, own_w1] at ho
 replace k3 := Lh k3; replace h3 := Lh h3
 clear l2 l2' l3 b2 b3 h1
 replace hV2 := Lh hV2; replace hV3 := Lh hV3
 go_wp2_with (fail)
 rw [← hV2.out, ← hV3.out]
 refine ho.mono ?_
 rintro e U0 ⟨rfl, p1, ht⟩
 have hX1 := Lh ht.sh
 have hs1 := Lh ht.same
 have kb1 := Lh (ht.bel h3.out k3.out)
 clear ho ht
 go_wp2_with (fail)
 refine (eff_any 1 0 1 3 _).mono ?_
 rintro e A1 ⟨rfl, ba⟩
 have hY := hX1.out.below ba
 have kbY := kb1.out.trans (ba.mono kb1.out.size)
 have hap := apEff_any hY wk1 cA ck_A kbY.size (by refine ⟨⟨?_, ?_⟩, ?_⟩ <;> decide +kernel) (by decide) (by decide)
 rw [r_a, hs1.out, show effX (incS w1) cA = w2 from rfl] at hap
 simp only [rpV, noText, cA] at hap
 clear ba
 replace hY := Lh hY; replace kbY := Lh kbY
 go_wp2_with (fail)
 refine hap.mono ?_
 rintro e B1 ⟨p2, rfl, ht⟩
 have hZ := ht.sh
 have hs2 := Lh (ht.same.trans hs1.out)
 have kbZ := ht.bel hY.out kbY.out
 obtain ⟨U1, hU1⟩ : ∃ W, W = B1.alloc (.cells #[.int .i64 0, .int .i64 8, .string ⟨#[]⟩] 52) := ⟨_, rfl⟩
 have bc : Below B1.heap.size B1 U1 := by rw [hU1]; exact (Below.refl _ _).alloc (Nat.le_refl _) _
 obtain ⟨aa, haa⟩ : ∃ z, z = B1.heap.size := ⟨_, rfl⟩
 have rpa := Lh (show U1.heap[aa]? = some (.cells #[.int .i64 0, .int .i64 8, .string ⟨#[]⟩] 52 (0, 0)) by rw [hU1, haa]; exact hpNew _ _)
 have hX2 := Lh (hZ.below bc)
 have kb2 := Lh (kbZ.trans (bc.mono kbZ.size))
 clear bc hZ kbZ ht hap hY kbY
 replace hU1 := Lh hU1; replace haa := Lh haa
 go_wp2_with (fail)
 rw [← hU1.out, ← haa.out]
 refine (eff_any 1 0 1 7 _).mono ?_
 rintro e A2 ⟨rfl, ba⟩
 have hY := hX2.out.below ba
 have kbY := kb2.out.trans (ba.mono kb2.out.size)
 replace rpa := Lh ((ba.block _ (blkX rpa.out)).trans rpa.out)
 have hap := apEff_any hY wk2 cB ck_B kbY.size (by refine ⟨⟨?_, ?_⟩, ?_⟩ <;> decide +kernel) (by decide) (by decide)
 rw [r_b, hs2.out, show effX (incS w2) cB = w3 from rfl] at hap
 simp only [rpV, noText, cB] at hap
 clear ba
 replace hY := Lh hY; replace kbY := Lh kbY
 go_wp2_with (fail)
 refine hap.mono ?_
 rintro e B2 ⟨p3, rfl, ht⟩
 have hZ := ht.sh
 have hs3 := Lh (ht.same.trans hs2.out)
 have kbZ := ht.bel hY.out kbY.out
 replace rpa := Lh (ht.reply hY.out rpa.out)
 obtain ⟨U2, hU2⟩ : ∃ W, W = B2.alloc (.cells #[.int .i64 0, .int .i64 8, .string ⟨#[]⟩] 52) := ⟨_, rfl⟩
 have bc : Below B2.heap.size B2 U2 := by rw [hU2]; exact (Below.refl _ _).alloc (Nat.le_refl _) _
 obtain ⟨ab, hab⟩ : ∃ z, z = B2.heap.size := ⟨_, rfl⟩
 replace rpa := Lh ((bc.block _ (blkX rpa.out)).trans rpa.out)
 have rpb := Lh (show U2.heap[ab]? = some (.cells #[.int .i64 0, .int .i64 8, .string ⟨#[]⟩] 52 (0, 0)) by rw [hU2, hab]; exact hpNew _ _)
 have hX3 := Lh (hZ.below bc)
 have kb3 := Lh (kbZ.trans (bc.mono kbZ.size))
 clear bc hZ kbZ ht hap hY kbY
 replace hU2 := Lh hU2; replace hab := Lh hab
 go_wp2_with (fail)
 rw [← hU2.out, ← hab.out]
 refine (eff_any 2 0 1 4 _).mono ?_
 rintro e A3 ⟨rfl, ba⟩
 have hY := hX3.out.below ba
 have kbY := kb3.out.trans (ba.mono kb3.out.size)
 replace rpa := Lh ((ba.block _ (blkX rpa.out)).trans rpa.out)
 replace rpb := Lh ((ba.block _ (blkX rpb.out)).trans rpb.out)
 have hap := apEff_any hY wk3 cC ck_C kbY.size (by refine ⟨⟨?_, ?_⟩, ?_⟩ <;> decide +kernel) (by decide) (by decide)
 rw [r_c, hs3.out, show effX (incS w3) cC = w4 from rfl] at hap
 simp only [rpV, noText, cC] at hap
 clear ba
 replace hY := Lh hY; replace kbY := Lh kbY
 go_wp2_with (fail)
 refine hap.mono ?_
 rintro e B3 ⟨p4, rfl, ht⟩
 have hZ := ht.sh
 have hs4 := Lh (ht.same.trans hs3.out)
 have kbZ := ht.bel hY.out kbY.out
 replace rpa := Lh (ht.reply hY.out rpa.out)
 replace rpb := Lh (ht.reply hY.out rpb.out)
 obtain ⟨U3, hU3⟩ : ∃ W, W = B3.alloc (.cells #[.int .i64 7, .int .i64 0, .string ⟨#[]⟩] 52) := ⟨_, rfl⟩
 have bc : Below B3.heap.size B3 U3 := by rw [hU3]; exact (Below.refl _ _).alloc (Nat.le_refl _) _
 obtain ⟨ac, hac⟩ : ∃ z, z = B3.heap.size := ⟨_, rfl⟩
 replace rpa := Lh ((bc.block _ (blkX rpa.out)).trans rpa.out)
 replace rpb := Lh ((bc.block _ (blkX rpb.out)).trans rpb.out)
 have rpc := Lh (show U3.heap[ac]? = some (.cells #[.int .i64 7, .int .i64 0, .string ⟨#[]⟩] 52 (0, 0)) by rw [hU3, hac]; exact hpNew _ _)
 have hX4 := Lh (hZ.below bc)
 have kb4 := Lh (kbZ.trans (bc.mono kbZ.size))
 clear bc hZ kbZ ht hap hY kbY
 replace hU3 := Lh hU3; replace hac := Lh hac
 go_wp2_with (fail)
 rw [← hU3.out, ← hac.out]
 refine (eff_any 2 0 2 4 _).mono ?_
 rintro e A4 ⟨rfl, ba⟩
 have hY := hX4.out.below ba
 have kbY := kb4.out.trans (ba.mono kb4.out.size)
 replace rpa := Lh ((ba.block _ (blkX rpa.out)).trans rpa.out)
 replace rpb := Lh ((ba.block _ (blkX rpb.out)).trans rpb.out)
 replace rpc := Lh ((ba.block _ (blkX rpc.out)).trans rpc.out)
 have hap := apEff_any hY wk4 cDD ck_D kbY.size (by refine ⟨⟨?_, ?_⟩, ?_⟩ <;> decide +kernel) (by decide) (by decide)
 rw [r_d, hs4.out, show effX (incS w4) cDD = w5 from rfl] at hap
 simp only [rpV, noText, cDD] at hap
 clear ba
 replace hY := Lh hY; replace kbY := Lh kbY
 go_wp2_with (fail)
 refine hap.mono ?_
 rintro e B4 ⟨p5, rfl, ht⟩
 have hZ := ht.sh
 have hs5 := Lh (ht.same.trans hs4.out)
 have kbZ := ht.bel hY.out kbY.out
 replace rpa := Lh (ht.reply hY.out rpa.out)
 replace rpb := Lh (ht.reply hY.out rpb.out)
 replace rpc := Lh (ht.reply hY.out rpc.out)
 obtain ⟨U4, hU4⟩ : ∃ W, W = B4.alloc (.cells #[.int .i64 0, .int .i64 0, .string ⟨#[]⟩] 52) := ⟨_, rfl⟩
 have bc : Below B4.heap.size B4 U4 := by rw [hU4]; exact (Below.refl _ _).alloc (Nat.le_refl _) _
 obtain ⟨ad, had⟩ : ∃ z, z = B4.heap.size := ⟨_, rfl⟩
 replace rpa := Lh ((bc.block _ (blkX rpa.out)).trans rpa.out)
 replace rpb := Lh ((bc.block _ (blkX rpb.out)).trans rpb.out)
 replace rpc := Lh ((bc.block _ (blkX rpc.out)).trans rpc.out)
 have rpd := Lh (show U4.heap[ad]? = some (.cells #[.int .i64 0, .int .i64 0, .string ⟨#[]⟩] 52 (0, 0)) by rw [hU4, had]; exact hpNew _ _)
 have hX5 := Lh (hZ.below bc)
 have kb5 := Lh (kbZ.trans (bc.mono kbZ.size))
 clear bc hZ kbZ ht hap hY kbY
 replace hU4 := Lh hU4; replace had := Lh had
 go_wp2_with (fail)
 rw [← hU4.out, ← had.out]
 refine (eff_any 3 1 2 2 _).mono ?_
 rintro e A5 ⟨rfl, ba⟩
 have hY := hX5.out.below ba
 have kbY := kb5.out.trans (ba.mono kb5.out.size)
 replace rpa := Lh ((ba.block _ (blkX rpa.out)).trans rpa.out)
 replace rpb := Lh ((ba.block _ (blkX rpb.out)).trans rpb.out)
 replace rpc := Lh ((ba.block _ (blkX rpc.out)).trans rpc.out)
 replace rpd := Lh ((ba.block _ (blkX rpd.out)).trans rpd.out)
 have hap := apEff_any hY wk5 cG ck_G kbY.size (by refine ⟨⟨?_, ?_⟩, ?_⟩ <;> decide +kernel) (by decide) (by decide)
 rw [r_g, hs5.out, show effX (incS w5) cG = w6 from rfl] at hap
 simp only [rpV, noText, cG] at hap
 clear ba
 replace hY := Lh hY; replace kbY := Lh kbY
 go_wp2_with (fail)
 refine hap.mono ?_
 rintro e B5 ⟨p6, rfl, ht⟩
 have hZ := ht.sh
 have hs6 := Lh (ht.same.trans hs5.out)
 have kbZ := ht.bel hY.out kbY.out
 replace rpa := Lh (ht.reply hY.out rpa.out)
 replace rpb := Lh (ht.reply hY.out rpb.out)
 replace rpc := Lh (ht.reply hY.out rpc.out)
 replace rpd := Lh (ht.reply hY.out rpd.out)
 obtain ⟨U5, hU5⟩ : ∃ W, W = B5.alloc (.cells #[.int .i64 0, .int .i64 0, .string ⟨#[]⟩] 52) := ⟨_, rfl⟩
 have bc : Below B5.heap.size B5 U5 := by rw [hU5]; exact (Below.refl _ _).alloc (Nat.le_refl _) _
 obtain ⟨ag, hag⟩ : ∃ z, z = B5.heap.size := ⟨_, rfl⟩
 replace rpa := Lh ((bc.block _ (blkX rpa.out)).trans rpa.out)
 replace rpb := Lh ((bc.block _ (blkX rpb.out)).trans rpb.out)
 replace rpc := Lh ((bc.block _ (blkX rpc.out)).trans rpc.out)
 replace rpd := Lh ((bc.block _ (blkX rpd.out)).trans rpd.out)
 have rpg := Lh (show U5.heap[ag]? = some (.cells #[.int .i64 0, .int .i64 0, .string ⟨#[]⟩] 52 (0, 0)) by rw [hU5, hag]; exact hpNew _ _)
 have hX6 := Lh (hZ.below bc)
 have kb6 := Lh (kbZ.trans (bc.mono kbZ.size))
 clear bc hZ kbZ ht hap hY kbY
 replace hU5 := Lh hU5; replace hag := Lh hag
 go_wp2_with (fail)
 rw [← hU5.out, ← hag.out]
 refine (eff_any 3 1 1 2 _).mono ?_
 rintro e A6 ⟨rfl, ba⟩
 have hY := hX6.out.below ba
 have kbY := kb6.out.trans (ba.mono kb6.out.size)
 replace rpa := Lh ((ba.block _ (blkX rpa.out)).trans rpa.out)
 replace rpb := Lh ((ba.block _ (blkX rpb.out)).trans rpb.out)
 replace rpc := Lh ((ba.block _ (blkX rpc.out)).trans rpc.out)
 replace rpd := Lh ((ba.block _ (blkX rpd.out)).trans rpd.out)
 replace rpg := Lh ((ba.block _ (blkX rpg.out)).trans rpg.out)
 have hap := apEff_any hY wk6 cH ck_H kbY.size (by refine ⟨⟨?_, ?_⟩, ?_⟩ <;> decide +kernel) (by decide) (by decide)
 rw [r_h, hs6.out, show effX (incS w6) cH = w7 from rfl] at hap
 simp only [rpV, noText, cH] at hap
 clear ba
 replace hY := Lh hY; replace kbY := Lh kbY
 go_wp2_with (fail)
 refine hap.mono ?_
 rintro e B6 ⟨p7, rfl, ht⟩
 have hZ := ht.sh
 have hs7 := Lh (ht.same.trans hs6.out)
 have kbZ := ht.bel hY.out kbY.out
 replace rpa := Lh (ht.reply hY.out rpa.out)
 replace rpb := Lh (ht.reply hY.out rpb.out)
 replace rpc := Lh (ht.reply hY.out rpc.out)
 replace rpd := Lh (ht.reply hY.out rpd.out)
 replace rpg := Lh (ht.reply hY.out rpg.out)
 obtain ⟨U6, hU6⟩ : ∃ W, W = B6.alloc (.cells #[.int .i64 9, .int .i64 0, .string ⟨#[]⟩] 52) := ⟨_, rfl⟩
 have bc : Below B6.heap.size B6 U6 := by rw [hU6]; exact (Below.refl _ _).alloc (Nat.le_refl _) _
 obtain ⟨ah, hah⟩ : ∃ z, z = B6.heap.size := ⟨_, rfl⟩
 replace rpa := Lh ((bc.block _ (blkX rpa.out)).trans rpa.out)
 replace rpb := Lh ((bc.block _ (blkX rpb.out)).trans rpb.out)
 replace rpc := Lh ((bc.block _ (blkX rpc.out)).trans rpc.out)
 replace rpd := Lh ((bc.block _ (blkX rpd.out)).trans rpd.out)
 replace rpg := Lh ((bc.block _ (blkX rpg.out)).trans rpg.out)
 have rph := Lh (show U6.heap[ah]? = some (.cells #[.int .i64 9, .int .i64 0, .string ⟨#[]⟩] 52 (0, 0)) by rw [hU6, hah]; exact hpNew _ _)
 have hX7 := Lh (hZ.below bc)
 have kb7 := Lh (kbZ.trans (bc.mono kbZ.size))
 clear bc hZ kbZ ht hap hY kbY
 replace hU6 := Lh hU6; replace hah := Lh hah
 go_wp2_with (fail)
 rw [← hU6.out, ← hah.out]
 refine (eff_any 1 0 3 3 _).mono ?_
 rintro e A7 ⟨rfl, ba⟩
 have hY := hX7.out.below ba
 have kbY := kb7.out.trans (ba.mono kb7.out.size)
 replace rpa := Lh ((ba.block _ (blkX rpa.out)).trans rpa.out)
 replace rpb := Lh ((ba.block _ (blkX rpb.out)).trans rpb.out)
 replace rpc := Lh ((ba.block _ (blkX rpc.out)).trans rpc.out)
 replace rpd := Lh ((ba.block _ (blkX rpd.out)).trans rpd.out)
 replace rpg := Lh ((ba.block _ (blkX rpg.out)).trans rpg.out)
 replace rph := Lh ((ba.block _ (blkX rph.out)).trans rph.out)
 have hap := apEff_any hY wk7 cI ck_I kbY.size (by refine ⟨⟨?_, ?_⟩, ?_⟩ <;> decide +kernel) (by decide) (by decide)
 rw [r_i, hs7.out, show effX (incS w7) cI = w8 from rfl] at hap
 simp only [rpV, noText, cI] at hap
 clear ba
 replace hY := Lh hY; replace kbY := Lh kbY
 go_wp2_with (fail)
 refine hap.mono ?_
 rintro e B7 ⟨p8, rfl, ht⟩
 have hZ := ht.sh
 have hs8 := Lh (ht.same.trans hs7.out)
 have kbZ := ht.bel hY.out kbY.out
 replace rpa := Lh (ht.reply hY.out rpa.out)
 replace rpb := Lh (ht.reply hY.out rpb.out)
 replace rpc := Lh (ht.reply hY.out rpc.out)
 replace rpd := Lh (ht.reply hY.out rpd.out)
 replace rpg := Lh (ht.reply hY.out rpg.out)
 replace rph := Lh (ht.reply hY.out rph.out)
 obtain ⟨U7, hU7⟩ : ∃ W, W = B7.alloc (.cells #[.int .i64 0, .int .i64 8, .string ⟨#[]⟩] 52) := ⟨_, rfl⟩
 have bc : Below B7.heap.size B7 U7 := by rw [hU7]; exact (Below.refl _ _).alloc (Nat.le_refl _) _
 obtain ⟨ai, hai⟩ : ∃ z, z = B7.heap.size := ⟨_, rfl⟩
 replace rpa := Lh ((bc.block _ (blkX rpa.out)).trans rpa.out)
 replace rpb := Lh ((bc.block _ (blkX rpb.out)).trans rpb.out)
 replace rpc := Lh ((bc.block _ (blkX rpc.out)).trans rpc.out)
 replace rpd := Lh ((bc.block _ (blkX rpd.out)).trans rpd.out)
 replace rpg := Lh ((bc.block _ (blkX rpg.out)).trans rpg.out)
 replace rph := Lh ((bc.block _ (blkX rph.out)).trans rph.out)
 have rpi := Lh (show U7.heap[ai]? = some (.cells #[.int .i64 0, .int .i64 8, .string ⟨#[]⟩] 52 (0, 0)) by rw [hU7, hai]; exact hpNew _ _)
 have hX8 := Lh (hZ.below bc)
 have kb8 := Lh (kbZ.trans (bc.mono kbZ.size))
 clear bc hZ kbZ ht hap hY kbY
 replace hU7 := Lh hU7; replace hai := Lh hai
 go_wp2_with (fail)
 rw [← hU7.out, ← hai.out]
 have hY := hX8
 have kbY := kb8
 obtain ⟨D, hD, hDn⟩ : ∃ D, outR (incS w8) cdO = (0, 0, D) ∧ ¬ D = noText := ⟨(outR (incS w8) cdO).2.2, Prod.ext r_o.1 (Prod.ext r_o.2.1 rfl), r_o.2.2⟩
 have hap := apOut_any hY.out wk8 cdO ck_O rfl kbY.out.size (by refine ⟨⟨?_, ?_⟩, ?_⟩ <;> decide +kernel) (by decide) (by decide)
 rw [hD, hs8.out, show outX (incS w8) cdO = w9 from rfl] at hap
 simp only [rpV, cdV, cdO, noText] at hap
 replace hD := Lh hD; replace hDn := Lh hDn
 refine hap.mono ?_
 rintro e B8 ⟨p9, rfl, ht⟩
 have hZ := ht.sh
 have hs9 := Lh (ht.same.trans hs8.out)
 have kbZ := ht.bel hY.out kbY.out
 replace rpa := Lh (ht.reply hY.out rpa.out)
 replace rpb := Lh (ht.reply hY.out rpb.out)
 replace rpc := Lh (ht.reply hY.out rpc.out)
 replace rpd := Lh (ht.reply hY.out rpd.out)
 replace rpg := Lh (ht.reply hY.out rpg.out)
 replace rph := Lh (ht.reply hY.out rph.out)
 replace rpi := Lh (ht.reply hY.out rpi.out)
 obtain ⟨U8, hU8⟩ : ∃ W, W = B8.alloc (.cells #[.int .i64 0, .int .i64 0, .string D] 52) := ⟨_, rfl⟩
 have bc : Below B8.heap.size B8 U8 := by rw [hU8]; exact (Below.refl _ _).alloc (Nat.le_refl _) _
 obtain ⟨ao, hao⟩ : ∃ z, z = B8.heap.size := ⟨_, rfl⟩
 replace rpa := Lh ((bc.block _ (blkX rpa.out)).trans rpa.out)
 replace rpb := Lh ((bc.block _ (blkX rpb.out)).trans rpb.out)
 replace rpc := Lh ((bc.block _ (blkX rpc.out)).trans rpc.out)
 replace rpd := Lh ((bc.block _ (blkX rpd.out)).trans rpd.out)
 replace rpg := Lh ((bc.block _ (blkX rpg.out)).trans rpg.out)
 replace rph := Lh ((bc.block _ (blkX rph.out)).trans rph.out)
 replace rpi := Lh ((bc.block _ (blkX rpi.out)).trans rpi.out)
 have rpo := Lh (show U8.heap[ao]? = some (.cells #[.int .i64 0, .int .i64 0, .string D] 52 (0, 0)) by rw [hU8, hao]; exact hpNew _ _)
 have hX9 := Lh (hZ.below bc)
 have kb9 := Lh (kbZ.trans (bc.mono kbZ.size))
 clear bc hZ kbZ ht hap hY kbY
 replace hU8 := Lh hU8; replace hao := Lh hao
 go_wp2_with (fail)
 rw [← hU8.out, ← hao.out]
 refine (eff_any 1 0 1 3 _).mono ?_
 rintro e A9 ⟨rfl, ba⟩
 have hY := hX9.out.below ba
 have kbY := kb9.out.trans (ba.mono kb9.out.size)
 replace rpa := Lh ((ba.block _ (blkX rpa.out)).trans rpa.out)
 replace rpb := Lh ((ba.block _ (blkX rpb.out)).trans rpb.out)
 replace rpc := Lh ((ba.block _ (blkX rpc.out)).trans rpc.out)
 replace rpd := Lh ((ba.block _ (blkX rpd.out)).trans rpd.out)
 replace rpg := Lh ((ba.block _ (blkX rpg.out)).trans rpg.out)
 replace rph := Lh ((ba.block _ (blkX rph.out)).trans rph.out)
 replace rpi := Lh ((ba.block _ (blkX rpi.out)).trans rpi.out)
 replace rpo := Lh ((ba.block _ (blkX rpo.out)).trans rpo.out)
 have hap := apEff_any hY wk9 cA ck_A kbY.size (by refine ⟨⟨?_, ?_⟩, ?_⟩ <;> decide +kernel) (by decide) (by decide)
 rw [r_j, hs9.out, show effX (incS w9) cA = w10 from rfl] at hap
 simp only [rpV, noText, cA] at hap
 clear ba
 replace hY := Lh hY; replace kbY := Lh kbY
 go_wp2_with (fail)
 refine hap.mono ?_
 rintro e B9 ⟨p10, rfl, ht⟩
 have hZ := ht.sh
 have hs10 := Lh (ht.same.trans hs9.out)
 have kbZ := ht.bel hY.out kbY.out
 replace rpa := Lh (ht.reply hY.out rpa.out)
 replace rpb := Lh (ht.reply hY.out rpb.out)
 replace rpc := Lh (ht.reply hY.out rpc.out)
 replace rpd := Lh (ht.reply hY.out rpd.out)
 replace rpg := Lh (ht.reply hY.out rpg.out)
 replace rph := Lh (ht.reply hY.out rph.out)
 replace rpi := Lh (ht.reply hY.out rpi.out)
 replace rpo := Lh (ht.reply hY.out rpo.out)
 obtain ⟨U9, hU9⟩ : ∃ W, W = B9.alloc (.cells #[.int .i64 16, .int .i64 0, .string ⟨#[]⟩] 52) := ⟨_, rfl⟩
 have bc : Below B9.heap.size B9 U9 := by rw [hU9]; exact (Below.refl _ _).alloc (Nat.le_refl _) _
 obtain ⟨aj, haj⟩ : ∃ z, z = B9.heap.size := ⟨_, rfl⟩
 replace rpa := Lh ((bc.block _ (blkX rpa.out)).trans rpa.out)
 replace rpb := Lh ((bc.block _ (blkX rpb.out)).trans rpb.out)
 replace rpc := Lh ((bc.block _ (blkX rpc.out)).trans rpc.out)
 replace rpd := Lh ((bc.block _ (blkX rpd.out)).trans rpd.out)
 replace rpg := Lh ((bc.block _ (blkX rpg.out)).trans rpg.out)
 replace rph := Lh ((bc.block _ (blkX rph.out)).trans rph.out)
 replace rpi := Lh ((bc.block _ (blkX rpi.out)).trans rpi.out)
 replace rpo := Lh ((bc.block _ (blkX rpo.out)).trans rpo.out)
 have rpj := Lh (show U9.heap[aj]? = some (.cells #[.int .i64 16, .int .i64 0, .string ⟨#[]⟩] 52 (0, 0)) by rw [hU9, haj]; exact hpNew _ _)
 have hX10 := Lh (hZ.below bc)
 have kb10 := Lh (kbZ.trans (bc.mono kbZ.size))
 clear bc hZ kbZ ht hap hY kbY
 replace hU9 := Lh hU9; replace haj := Lh haj
 have hAp := shApplied_any hX10.out
 have hRg := fun (W : World) (hb : Below U9.heap.size U9 W) => shRanges_any (hX10.out.below hb) (by show w10.own.length ≤ 1000000; rw [w10_own]; omega)
 rw [w10_app, hs10.out] at hAp
 simp only [w10_own, hs10.out] at hRg
 have hDe : ¬ D.toList = [] := fun e => hDn.out (tl_nil.1 e)
 have hDm := Lh (show D.toList.isEmpty = false by rw [tl_emp]; exact decide_eq_false hDn.out)
 have xa0 := blkC rpa.out 0; have xa1 := blkC rpa.out 1; have xa2 := blkC rpa.out 2; have xax := blkX rpa.out
 simp only [List.getElem?_toArray, List.getElem?_cons_zero, List.getElem?_cons_succ] at xa0 xa1 xa2
 have xb0 := blkC rpb.out 0; have xb1 := blkC rpb.out 1; have xb2 := blkC rpb.out 2; have xbx := blkX rpb.out
 simp only [List.getElem?_toArray, List.getElem?_cons_zero, List.getElem?_cons_succ] at xb0 xb1 xb2
 have xc0 := blkC rpc.out 0; have xc1 := blkC rpc.out 1; have xc2 := blkC rpc.out 2; have xcx := blkX rpc.out
 simp only [List.getElem?_toArray, List.getElem?_cons_zero, List.getElem?_cons_succ] at xc0 xc1 xc2
 have xd0 := blkC rpd.out 0; have xd1 := blkC rpd.out 1; have xd2 := blkC rpd.out 2; have xdx := blkX rpd.out
 simp only [List.getElem?_toArray, List.getElem?_cons_zero, List.getElem?_cons_succ] at xd0 xd1 xd2
 have xg0 := blkC rpg.out 0; have xg1 := blkC rpg.out 1; have xg2 := blkC rpg.out 2; have xgx := blkX rpg.out
 simp only [List.getElem?_toArray, List.getElem?_cons_zero, List.getElem?_cons_succ] at xg0 xg1 xg2
 have xh0 := blkC rph.out 0; have xh1 := blkC rph.out 1; have xh2 := blkC rph.out 2; have xhx := blkX rph.out
 simp only [List.getElem?_toArray, List.getElem?_cons_zero, List.getElem?_cons_succ] at xh0 xh1 xh2
 have xi0 := blkC rpi.out 0; have xi1 := blkC rpi.out 1; have xi2 := blkC rpi.out 2; have xix := blkX rpi.out
 simp only [List.getElem?_toArray, List.getElem?_cons_zero, List.getElem?_cons_succ] at xi0 xi1 xi2
 have xo0 := blkC rpo.out 0; have xo1 := blkC rpo.out 1; have xo2 := blkC rpo.out 2; have xox := blkX rpo.out
 simp only [List.getElem?_toArray, List.getElem?_cons_zero, List.getElem?_cons_succ] at xo0 xo1 xo2
 have xj0 := blkC rpj.out 0; have xj1 := blkC rpj.out 1; have xj2 := blkC rpj.out 2; have xjx := blkX rpj.out
 simp only [List.getElem?_toArray, List.getElem?_cons_zero, List.getElem?_cons_succ] at xj0 xj1 xj2
 rw [hU9.out] at hAp xa0 xa1 xa2 xax xb0 xb1 xb2 xbx xc0 xc1 xc2 xcx xd0 xd1 xd2 xdx xg0 xg1 xg2 xgx xh0 xh1 xh2 xhx xi0 xi1 xi2 xix xo0 xo1 xo2 xox xj0 xj1 xj2 xjx
 rw [haj.out] at xj0 xj1 xj2 xjx
 have hRg2 := hRg _ (Below.refl _ _)
 rw [hU9.out] at hRg2
 have kbf := kb10.out
 rw [hU9.out] at kbf
 replace kbf := Lh kbf
 clear hRg
 go_wp2_with (fail)
 refine hAp.mono ?_
 rintro e W8 ⟨rfl, hW8⟩
 subst hW8
 go_wp2_with (fail)
 refine hRg2.mono ?_
 rintro e W9 ⟨A', c', rfl, -, bR⟩
 have kR := Lh (kbf.out.trans (bR.mono kbf.out.size))
 clear bR hRg2 hAp
 go_wp2_with (fail)
 go_ret
 exact ⟨by first | rfl | simp [hDm.out], kR.out⟩
end Go.Proofs.YtgnjnpddehdmcaaGreatDoor
