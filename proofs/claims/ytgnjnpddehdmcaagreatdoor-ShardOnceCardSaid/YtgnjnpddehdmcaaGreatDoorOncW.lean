/- The walk of ShardOnce. -/
import Derived.Test.YtgnjnpddehdmcaaGreatDoorOpenL
import Derived.Test.YtgnjnpddehdmcaaGreatDoorWkP
import Derived.Test.YtgnjnpddehdmcaaGreatDoorFil
import Derived.Test.YtgnjnpddehdmcaaGreatDoorShort
import Derived.Deep.DeepCutAuto
namespace Go.Proofs.YtgnjnpddehdmcaaGreatDoor
open Go.RowKit Go.Shelf
set_option linter.unusedSimpArgs false
set_option linter.unusedVariables false
set_option linter.unusedSectionVars false
set_option maxRecDepth 10000
attribute [-go_sem] Instr.loadAt Instr.storeAt
attribute [local go_sem] loadAt_two storeAt_other
set_option maxHeartbeats 64000000 in
theorem once_walk (A : Option Addr) (n c : Nat) (ol : List OwS) (B0 : Option Addr) (m d : Nat) (cl : List CdS) (v : World) (ho : OL v A n ol) (hc : CL v B0 m cl) : Calls Tryz.prog 3 #[.slice A n c, .slice B0 m d] v fun e w' => e = .returned (.bool true) ∧ Below v.heap.size v w' := by
 have hsh := short34_any A n c ol B0 m d cl v ho hc
 replace ho := Lh ho; replace hc := Lh hc
 go_enter Tryz.func3, Tryz.ntmps3
 go_wp2_with (fail)
 refine hsh.mono ?_
 rintro e V1 ⟨⟨bb, rfl, hbb⟩, k1⟩
 clear hsh
 replace k1 := Lh k1
 cases bb with
 | false =>
  clear hbb
  go_wp2_with (fail)
  refine (works_any _).mono ?_
  rintro e W9 ⟨rfl, b9⟩
  have k9 := Lh (k1.out.trans (b9.mono k1.out.size))
  clear b9
  go_wp2_with (fail)
  go_ret
  exact ⟨rfl, k9.out⟩
 | true =>
  have hS := Lh (hbb rfl)
  clear hbb
  go_wp2_with (fail)
  have hF1 := filled_any A n c ol V1 (ho.out.keep k1.out) hS.out.1 hS.out.2.2.1
  refine hF1.mono ?_
  rintro e V2 ⟨p0, rfl, s1, f1, b2⟩
  clear hF1
  generalize filS (ol.map (·.y)) = x0 at *
  have hL := Lh (f1.lim hS.out.1)
  obtain ⟨S1, hS1⟩ : ∃ z, z = p0.S := ⟨_, rfl⟩
  rw [← hS1]
  replace hS1 := Lh hS1
  replace s1 := Lh s1; replace b2 := Lh b2
  clear f1
  obtain ⟨V3, hV3⟩ : ∃ Z, Z = V2.alloc (.map #[] 0) := ⟨_, rfl⟩
  have b3 : Below V2.heap.size V2 V3 := by rw [hV3]; exact (Below.refl _ _).alloc (Nat.le_refl _) _
  obtain ⟨B, hB⟩ : ∃ z, z = V2.heap.size := ⟨_, rfl⟩
  have hm0 : CM V3 B [] := by rw [hV3, hB]; exact CM.new V2
  have hO := Lh (show One V1 p0 x0 B [] V3 from ⟨b2.out.trans (b3.mono b2.out.size), s1.out.below b3, hm0, by rw [hB]; exact b2.out.size, fun q => by have := (s1.out.foot_lt B q).2; omega⟩)
  clear hm0 b3 s1 b2
  have hmk : (Instr.makeMap 28 none).run Tryz.prog V2 = .ok (.map (some B)) V3 := by rw [hV3, hB]; exact run_makeMap _ V2
  replace hV3 := Lh hV3; replace hB := Lh hB
  go_wp2_with (fail)
  clear hmk
  go_loopw [7] (fun i wr => ∃ (j : Nat) (p : Pl) (x : Sh) (l : List Ef), j ≤ m ∧ i = .int .i64 j ∧ p.S = S1 ∧ One V1 p x B l wr ∧ Lim (2 * j) x ∧ ChI x l ∧ l.length ≤ j) (fun i _ => m - (intOf i).toNat)
  case atStart => exact ⟨0, p0, x0, [], by omega, rfl, hS1.out.symm, hO.out, hL.out, fun e he => by simp at he, by simp⟩
  case round =>
   have hm60 : m ≤ 60 := hS.out.2.1
   clear hO hL hS1 hV3 hB
   revert wr
   intro X hrel
   obtain ⟨j, p, x, l, hj, rfl, hp, hO, hLx, hCh, hll⟩ := hrel
   replace hO := Lh hO; replace hLx := Lh hLx; replace hCh := Lh hCh
   have kX := Lh (k1.out.trans (hO.out.bel.mono k1.out.size))
   by_cases hlt : j < m
   ·
    have hcX := hc.out.keep kX.out
    obtain ⟨b, o, yy, rfl, hbl, hx, hcl⟩ := SL.at_ hcX.sl hlt
    obtain ⟨hsy, hoky⟩ := hcX.ok yy (List.mem_of_getElem? hx)
    have hszy := hS.out.2.2.2 yy (List.mem_of_getElem? hx)
    have hld := cd_load_at (fun j u hu => hcl j u hu)
    obtain ⟨cc, stp⟩ := yy
    simp only at hsy hoky hszy hld
    clear hcl hx hcX hsy
    have hst := cd_store cc X X.heap.size rfl
    have hcle := Lh hO.out.s.cle
    have j0 : (0 : Int) ≤ j := by omega
    have j1 : (j : Int) < (m : Int) := by omega
    replace hoky := Lh hoky; replace hszy := Lh hszy
    obtain ⟨X1, hX1⟩ : ∃ Z, Z = X.alloc (.cells (cdV cc) 40) := ⟨_, rfl⟩
    have bb : Below X.heap.size X X1 := by rw [hX1]; exact (Below.refl _ _).alloc (Nat.le_refl _) _
    obtain ⟨ab, hab⟩ : ∃ z, z = X.heap.size := ⟨_, rfl⟩
    have hcb := Lh (show X1.heap[ab]? = some (.cells (cdV cc) 40 (0, 0)) by rw [hX1, hab]; exact hpNew _ _)
    replace hO := Lh (hO.out.below bb)
    clear bb
    replace hX1 := Lh hX1; replace hab := Lh hab
    rw [← hX1.out] at hst
    go_upto_region 11 with (fail)
    rw [← hab.out]
    clear hst hld
    have t0 : X1.cell? ⟨ab, 0, none⟩ = some (.int .i64 cc.k) := blkC hcb.out 0
    have tx := blkX hcb.out
    by_cases hk1 : cc.k = 1
    ·
     have q1 : (cc.k = 1) = True := eq_true hk1
     have hck := check_cmd cc (by omega) (by omega) hszy.out X1
     have hld := cd_load hcb.out
     go_wp2_with (fail)
     clear t0 tx hld
     refine hck.mono ?_
     rintro e Xc ⟨rfl, bb⟩
     clear hck
     replace hO := Lh (hO.out.below bb)
     replace hcb := Lh ((bb.block _ (blkX hcb.out)).trans hcb.out)
     clear bb
     cases hcc : checkB cc with
     | false =>
      simp only [hcc, Bool.false_eq_true, if_false]
      replace hcc := Lh hcc
      go_wp2_with (fail)
      exact ⟨⟨j + 1, p, x, l, by omega, by go_num, hp, hO.out, hLx.out.le (by omega), hCh.out, by omega⟩, by simp [intOf]; omega⟩
     | true =>
      simp only [hcc, if_true]
      replace hcc := Lh hcc; replace hk1 := Lh hk1
      have hSt := one_state hO.out (hLx.out.le (by omega))
      rw [hp] at hSt
      go_wp2_with (fail)
      refine hSt.mono ?_
      rintro e Wa ⟨wa, rfl, hA, bb⟩
      clear hSt
      replace hO := Lh (hO.out.below bb)
      replace hcb := Lh ((bb.block _ (blkX hcb.out)).trans hcb.out)
      clear bb
      replace hA := Lh hA
      obtain ⟨Wb, hWb⟩ : ∃ Z, Z = Wa.alloc (.cells #[.int .i64 x.group, .int .i64 x.app, .slice wa.R x.own.length wa.cR, .slice wa.K x.cnt.length wa.cK, .slice wa.C x.cnt.length wa.cC, .slice wa.M x.mem.length wa.cM, .slice wa.G x.giv.length wa.cG, .slice wa.T x.tak.length wa.cT] 49) := ⟨_, rfl⟩
      have bb : Below Wa.heap.size Wa Wb := by rw [hWb]; exact (Below.refl _ _).alloc (Nat.le_refl _) _
      obtain ⟨wb, hwb⟩ : ∃ z, z = Wa.heap.size := ⟨_, rfl⟩
      have hw := Lh (show Wb.heap[wb]? = some (.cells #[.int .i64 x.group, .int .i64 x.app, .slice wa.R x.own.length wa.cR, .slice wa.K x.cnt.length wa.cK, .slice wa.C x.cnt.length wa.cC, .slice wa.M x.mem.length wa.cM, .slice wa.G x.giv.length wa.cG, .slice wa.T x.tak.length wa.cT] 49 (0, 0)) by rw [hWb, hwb]; exact hpNew _ _)
      replace hO := Lh (hO.out.below bb)
      replace hcb := Lh ((bb.block _ (blkX hcb.out)).trans hcb.out)
      replace hA := Lh (hA.out.below bb)
      clear bb
      replace hWb := Lh hWb; replace hwb := Lh hwb
      go_upto_region 13 with (fail)
      rw [← hwb.out]
      rw [← hWb.out]
      have t3 : Wb.cell? ⟨ab, 3, none⟩ = some (.int .i64 cc.e.1) := blkC hcb.out 3
      have t4 : Wb.cell? ⟨ab, 4, none⟩ = some (.int .i64 cc.e.2.1) := blkC hcb.out 4
      have t5 : Wb.cell? ⟨ab, 5, none⟩ = some (.int .i64 cc.e.2.2) := blkC hcb.out 5
      have tx := blkX hcb.out
      have hDn := shDone_any hO.out.s (cc.e)
      rw [hp] at hDn
      obtain ⟨g, qg⟩ : ∃ z, z = getR x.mem (cc.e) := ⟨_, rfl⟩
      obtain ⟨d0, qd0⟩ : ∃ z, z = hasB x.mem (cc.e) := ⟨_, rfl⟩
      rw [← qg, ← qd0] at hDn
      obtain ⟨g1, g2, g3⟩ := g
      simp only at hDn
      replace qg := Lh qg; replace qd0 := Lh qd0
      go_wp2_with (fail)
      clear t3 t4 t5 tx
      refine hDn.mono ?_
      rintro e Wda ⟨rfl, bb⟩
      clear hDn
      replace hO := Lh (hO.out.below bb)
      replace hcb := Lh ((bb.block _ (blkX hcb.out)).trans hcb.out)
      replace hA := Lh (hA.out.below bb)
      replace hw := Lh ((bb.block _ (blkX hw.out)).trans hw.out)
      clear bb
      obtain ⟨Wd, hWd⟩ : ∃ Z, Z = Wda.alloc (.cells #[.int .i64 g1, .int .i64 g2, .string g3] 52) := ⟨_, rfl⟩
      have bb : Below Wda.heap.size Wda Wd := by rw [hWd]; exact (Below.refl _ _).alloc (Nat.le_refl _) _
      obtain ⟨gb, hgb⟩ : ∃ z, z = Wda.heap.size := ⟨_, rfl⟩
      have hg := Lh (show Wd.heap[gb]? = some (.cells #[.int .i64 g1, .int .i64 g2, .string g3] 52 (0, 0)) by rw [hWd, hgb]; exact hpNew _ _)
      replace hO := Lh (hO.out.below bb)
      replace hcb := Lh ((bb.block _ (blkX hcb.out)).trans hcb.out)
      replace hA := Lh (hA.out.below bb)
      replace hw := Lh ((bb.block _ (blkX hw.out)).trans hw.out)
      clear bb
      replace hWd := Lh hWd; replace hgb := Lh hgb
      go_upto_region 14 with (fail)
      rw [← hgb.out]
      rw [← hWd.out]
      have hld := cd_load hcb.out
      have hap := ap12_any hO.out.s hLx.out.a0 (by have := hLx.out.a1; omega) (by have := hLx.out.own; omega) hO.out.bel.size cc (.inl hk1.out) hszy.out hoky.out.2.1.1 hoky.out.2.1.2
      rw [hp] at hap
      obtain ⟨r, qr⟩ : ∃ z, z = apR x cc := ⟨_, rfl⟩
      obtain ⟨x1, qx1⟩ : ∃ z, z = apX x cc := ⟨_, rfl⟩
      rw [← qr, ← qx1] at hap
      obtain ⟨r1, r2, r3⟩ := r
      simp only [rpV] at hap
      have hL1 := Lh (show Lim (2 * j + 1) x1 from qx1 ▸ hLx.out.ap cc)
      have hor := hO.out.s.ord
      have hag := ap_again hor hcc.out hk1.out
      have hnw := ap_new hor hcc.out hk1.out
      have hth := ap_there (x := x) hcc.out hk1.out
      rw [← qx1, ← qr] at hag hnw hth
      have hCk := ChI.keep hCh.out hor hcc.out hk1.out
      have hCn := ch_new hCh.out hor hcc.out hk1.out
      rw [← qx1] at hCk hCn
      have happ : x1.app = x.app + 1 := by have := hLx.out.a1; rw [qx1, (apX_own x cc).2.1]; unfold incS; simp only; omega
      clear hor
      replace hag := Lh hag
      replace hnw := Lh hnw
      replace hth := Lh hth
      replace hCk := Lh hCk
      replace hCn := Lh hCn
      replace qr := Lh qr
      replace qx1 := Lh qx1
      replace happ := Lh happ
      go_wp2_with (fail)
      clear hld
      refine hap.mono ?_
      rintro e Wea ⟨p1, rfl, ht⟩
      clear hap
      have hp1 : p1.S = S1 := ht.same.trans hp
      replace hcb := Lh (ht.cells hO.out.s hcb.out (by decide))
      replace hA := Lh (hA.out.sTo ht)
      replace hw := Lh (ht.cells hO.out.s hw.out (by decide))
      replace hg := Lh (ht.cells hO.out.s hg.out (by decide))
      replace hO := Lh (hO.out.sTo ht)
      clear ht
      obtain ⟨We, hWe⟩ : ∃ Z, Z = Wea.alloc (.cells #[.int .i64 r1, .int .i64 r2, .string r3] 52) := ⟨_, rfl⟩
      have bb : Below Wea.heap.size Wea We := by rw [hWe]; exact (Below.refl _ _).alloc (Nat.le_refl _) _
      obtain ⟨rb, hrb⟩ : ∃ z, z = Wea.heap.size := ⟨_, rfl⟩
      have hr := Lh (show We.heap[rb]? = some (.cells #[.int .i64 r1, .int .i64 r2, .string r3] 52 (0, 0)) by rw [hWe, hrb]; exact hpNew _ _)
      replace hO := Lh (hO.out.below bb)
      replace hcb := Lh ((bb.block _ (blkX hcb.out)).trans hcb.out)
      replace hA := Lh (hA.out.below bb)
      replace hw := Lh ((bb.block _ (blkX hw.out)).trans hw.out)
      replace hg := Lh ((bb.block _ (blkX hg.out)).trans hg.out)
      clear bb
      replace hWe := Lh hWe; replace hrb := Lh hrb
      go_upto_region 15 with (fail)
      rw [← hrb.out]
      rw [← hWe.out]
      have hSt := one_state hO.out (hL1.out.le (by omega))
      rw [hp1] at hSt
      go_wp2_with (fail)
      refine hSt.mono ?_
      rintro e Wf ⟨na, rfl, hN, bb⟩
      clear hSt
      replace hO := Lh (hO.out.below bb)
      replace hcb := Lh ((bb.block _ (blkX hcb.out)).trans hcb.out)
      replace hA := Lh (hA.out.below bb)
      replace hw := Lh ((bb.block _ (blkX hw.out)).trans hw.out)
      replace hg := Lh ((bb.block _ (blkX hg.out)).trans hg.out)
      replace hr := Lh ((bb.block _ (blkX hr.out)).trans hr.out)
      clear bb
      replace hN := Lh hN
      obtain ⟨Wg, hWg⟩ : ∃ Z, Z = Wf.alloc (.cells #[.int .i64 x1.group, .int .i64 x1.app, .slice na.R x1.own.length na.cR, .slice na.K x1.cnt.length na.cK, .slice na.C x1.cnt.length na.cC, .slice na.M x1.mem.length na.cM, .slice na.G x1.giv.length na.cG, .slice na.T x1.tak.length na.cT] 49) := ⟨_, rfl⟩
      have bb : Below Wf.heap.size Wf Wg := by rw [hWg]; exact (Below.refl _ _).alloc (Nat.le_refl _) _
      obtain ⟨nb, hnb⟩ : ∃ z, z = Wf.heap.size := ⟨_, rfl⟩
      have hn := Lh (show Wg.heap[nb]? = some (.cells #[.int .i64 x1.group, .int .i64 x1.app, .slice na.R x1.own.length na.cR, .slice na.K x1.cnt.length na.cK, .slice na.C x1.cnt.length na.cC, .slice na.M x1.mem.length na.cM, .slice na.G x1.giv.length na.cG, .slice na.T x1.tak.length na.cT] 49 (0, 0)) by rw [hWg, hnb]; exact hpNew _ _)
      replace hO := Lh (hO.out.below bb)
      replace hcb := Lh ((bb.block _ (blkX hcb.out)).trans hcb.out)
      replace hA := Lh (hA.out.below bb)
      replace hw := Lh ((bb.block _ (blkX hw.out)).trans hw.out)
      replace hg := Lh ((bb.block _ (blkX hg.out)).trans hg.out)
      replace hr := Lh ((bb.block _ (blkX hr.out)).trans hr.out)
      replace hN := Lh (hN.out.below bb)
      clear bb
      replace hWg := Lh hWg; replace hnb := Lh hnb
      go_upto_region 16 with (fail)
      rw [← hnb.out]
      rw [← hWg.out]
      have t3 : Wg.cell? ⟨ab, 3, none⟩ = some (.int .i64 cc.e.1) := blkC hcb.out 3
      have t4 : Wg.cell? ⟨ab, 4, none⟩ = some (.int .i64 cc.e.2.1) := blkC hcb.out 4
      have t5 : Wg.cell? ⟨ab, 5, none⟩ = some (.int .i64 cc.e.2.2) := blkC hcb.out 5
      have tx := blkX hcb.out
      have hDn := shDone_any hO.out.s (cc.e)
      rw [hp1] at hDn
      obtain ⟨gq, qgq⟩ : ∃ z, z = getR x1.mem (cc.e) := ⟨_, rfl⟩
      obtain ⟨d1, qd1⟩ : ∃ z, z = hasB x1.mem (cc.e) := ⟨_, rfl⟩
      rw [← qgq, ← qd1] at hDn
      obtain ⟨gq1, gq2, gq3⟩ := gq
      simp only at hDn
      replace qgq := Lh qgq; replace qd1 := Lh qd1
      go_wp2_with (fail)
      clear t3 t4 t5 tx
      refine hDn.mono ?_
      rintro e Wha ⟨rfl, bb⟩
      clear hDn
      replace hO := Lh (hO.out.below bb)
      replace hcb := Lh ((bb.block _ (blkX hcb.out)).trans hcb.out)
      replace hA := Lh (hA.out.below bb)
      replace hw := Lh ((bb.block _ (blkX hw.out)).trans hw.out)
      replace hg := Lh ((bb.block _ (blkX hg.out)).trans hg.out)
      replace hr := Lh ((bb.block _ (blkX hr.out)).trans hr.out)
      replace hN := Lh (hN.out.below bb)
      replace hn := Lh ((bb.block _ (blkX hn.out)).trans hn.out)
      clear bb
      obtain ⟨Wh, hWh⟩ : ∃ Z, Z = Wha.alloc (.cells #[.int .i64 gq1, .int .i64 gq2, .string gq3] 52) := ⟨_, rfl⟩
      have bb : Below Wha.heap.size Wha Wh := by rw [hWh]; exact (Below.refl _ _).alloc (Nat.le_refl _) _
      obtain ⟨qb, hqb⟩ : ∃ z, z = Wha.heap.size := ⟨_, rfl⟩
      have hq := Lh (show Wh.heap[qb]? = some (.cells #[.int .i64 gq1, .int .i64 gq2, .string gq3] 52 (0, 0)) by rw [hWh, hqb]; exact hpNew _ _)
      replace hO := Lh (hO.out.below bb)
      replace hcb := Lh ((bb.block _ (blkX hcb.out)).trans hcb.out)
      replace hA := Lh (hA.out.below bb)
      replace hw := Lh ((bb.block _ (blkX hw.out)).trans hw.out)
      replace hg := Lh ((bb.block _ (blkX hg.out)).trans hg.out)
      replace hr := Lh ((bb.block _ (blkX hr.out)).trans hr.out)
      replace hN := Lh (hN.out.below bb)
      replace hn := Lh ((bb.block _ (blkX hn.out)).trans hn.out)
      clear bb
      replace hWh := Lh hWh; replace hqb := Lh hqb
      go_upto_region 17 with (fail)
      rw [← hqb.out]
      rw [← hWh.out]
      clear hq
      go_cut [103] (fun bb wx => bb = .bool false ∧ One V1 p1 x1 B l wx ∧ wx.heap[ab]? = some (.cells (cdV cc) 40 (0, 0)) ∧ wx.heap[wb]? = some (.cells #[.int .i64 x.group, .int .i64 x.app, .slice wa.R x.own.length wa.cR, .slice wa.K x.cnt.length wa.cK, .slice wa.C x.cnt.length wa.cC, .slice wa.M x.mem.length wa.cM, .slice wa.G x.giv.length wa.cG, .slice wa.T x.tak.length wa.cT] 49 (0, 0)) ∧ wx.heap[rb]? = some (.cells #[.int .i64 r1, .int .i64 r2, .string r3] 52 (0, 0)) ∧ wx.heap[nb]? = some (.cells #[.int .i64 x1.group, .int .i64 x1.app, .slice na.R x1.own.length na.cR, .slice na.K x1.cnt.length na.cK, .slice na.C x1.cnt.length na.cC, .slice na.M x1.mem.length na.cM, .slice na.G x1.giv.length na.cG, .slice na.T x1.tak.length na.cT] 49 (0, 0)) ∧ StH wx p1 B x1 na ∧ StH wx p1 B x wa)
      case first =>
       as_aux_lemma =>
       have hcn : x.cnt.length ≤ 64 := hcle.out
       cases d0 with
       | true =>
        obtain ⟨hrg, hxx⟩ := hth.out qd0.out.symm
        have hrg := hrg.trans qg.out.symm
        simp only [Prod.mk.injEq] at hrg
        obtain ⟨rfl, rfl, rfl⟩ := hrg
        have hd1 : d1 = true := by rw [qd1.out, hxx]; exact qd0.out.symm
        subst hd1
        have lk : Like x x1 := by rw [hxx]; exact like_inc x
        replace hxx := Lh hxx
        have hlw := st_load (x := x) (a := wa) hw.out; have hln := st_load (x := x1) (a := na) hn.out
        have heq := one_equal hA.out hN.out lk (hLx.out.sz (by omega) (by have := hcn; omega))
        go_wp2_with (fail)
        clear hlw hln
        refine heq.mono ?_
        rintro e Wz ⟨rfl, bb⟩
        clear heq
        replace hO := Lh (hO.out.below bb)
        replace hcb := Lh ((bb.block _ (blkX hcb.out)).trans hcb.out)
        replace hA := Lh (hA.out.below bb)
        replace hw := Lh ((bb.block _ (blkX hw.out)).trans hw.out)
        replace hg := Lh ((bb.block _ (blkX hg.out)).trans hg.out)
        replace hr := Lh ((bb.block _ (blkX hr.out)).trans hr.out)
        replace hN := Lh (hN.out.below bb)
        replace hn := Lh ((bb.block _ (blkX hn.out)).trans hn.out)
        clear bb
        have e0 : Wz.cell? ⟨rb, 0, none⟩ = some (.int .i64 r1) := blkC hr.out 0
        have e1 : Wz.cell? ⟨rb, 1, none⟩ = some (.int .i64 r2) := blkC hr.out 1
        have e2 : Wz.cell? ⟨rb, 2, none⟩ = some (.string r3) := blkC hr.out 2
        have ex := blkX hr.out
        have f0 : Wz.cell? ⟨gb, 0, none⟩ = some (.int .i64 r1) := blkC hg.out 0
        have f1 : Wz.cell? ⟨gb, 1, none⟩ = some (.int .i64 r2) := blkC hg.out 1
        have f2 : Wz.cell? ⟨gb, 2, none⟩ = some (.string r3) := blkC hg.out 2
        have fx := blkX hg.out
        replace lk := Lh lk
        go_wp2_with (fail)
        go_meet
        exact ⟨rfl, hO.out, hcb.out, hw.out, hr.out, hn.out, hN.out, hA.out⟩
       | false =>
        cases d1 with
        | true =>
         go_wp2_with (fail)
         go_meet
         exact ⟨rfl, hO.out, hcb.out, hw.out, hr.out, hn.out, hN.out, hA.out⟩
        | false =>
         have hnn := (hnw.out qd0.out.symm).resolve_left fun q => by have := has_of q.has; rw [← qd1.out] at this; cases this
         obtain ⟨hxx, hr0⟩ := hnn
         have lk : Like x x1 := by rw [hxx]; exact like_inc x
         have hr0' : (r1 == 0) = false := by simpa using hr0
         replace hxx := Lh hxx; replace hr0 := Lh hr0
         have hlw := st_load (x := x) (a := wa) hw.out; have hln := st_load (x := x1) (a := na) hn.out
         have heq := one_equal hA.out hN.out lk (hLx.out.sz (by omega) (by have := hcn; omega))
         go_wp2_with (fail)
         clear hlw hln
         refine heq.mono ?_
         rintro e Wz ⟨rfl, bb⟩
         clear heq
         replace hO := Lh (hO.out.below bb)
         replace hcb := Lh ((bb.block _ (blkX hcb.out)).trans hcb.out)
         replace hA := Lh (hA.out.below bb)
         replace hw := Lh ((bb.block _ (blkX hw.out)).trans hw.out)
         replace hg := Lh ((bb.block _ (blkX hg.out)).trans hg.out)
         replace hr := Lh ((bb.block _ (blkX hr.out)).trans hr.out)
         replace hN := Lh (hN.out.below bb)
         replace hn := Lh ((bb.block _ (blkX hn.out)).trans hn.out)
         clear bb
         have e0 : Wz.cell? ⟨rb, 0, none⟩ = some (.int .i64 r1) := blkC hr.out 0
         have e1 : Wz.cell? ⟨rb, 1, none⟩ = some (.int .i64 r2) := blkC hr.out 1
         have e2 : Wz.cell? ⟨rb, 2, none⟩ = some (.string r3) := blkC hr.out 2
         have ex := blkX hr.out
         replace lk := Lh lk
         go_wp2_with (fail)
         go_meet
         exact ⟨rfl, hO.out, hcb.out, hw.out, hr.out, hn.out, hN.out, hA.out⟩
      case rest =>
       as_aux_lemma =>
       clear hO hcb hw hg hr hn hA hN
       obtain ⟨hbf, hO, hcb, hw, hr, hn, hN, hA⟩ := hcut
       subst hbf
       replace hO := Lh hO
       replace hcb := Lh hcb
       replace hw := Lh hw
       replace hr := Lh hr
       replace hn := Lh hn
       replace hN := Lh hN
       replace hA := Lh hA
       go_wp2_with (fail)
       go_loopw [16, 17] (fun xb kk wr => ∃ (k : Nat) (xv : Bool), k ≤ x1.cnt.length ∧ kk = .int .i64 k ∧ xb = .bool xv ∧ (xv = true → x1.cnt ≠ x.cnt) ∧ Below wc.heap.size wc wr) (fun _ kk _ => x1.cnt.length - (intOf kk).toNat)
       case atStart => exact ⟨0, false, by omega, rfl, rfl, fun h => by (cases h), Below.refl _ _⟩
       case round =>
        revert wr
        intro U hrel
        obtain ⟨k, xv, hk, rfl, rfl, hxv, bU⟩ := hrel
        have hcn1 : x1.cnt.length ≤ 64 := hO.out.s.cle
        replace hO := Lh (hO.out.below bU)
        replace hcb := Lh ((bU.block _ (blkX hcb.out)).trans hcb.out)
        replace hw := Lh ((bU.block _ (blkX hw.out)).trans hw.out)
        replace hr := Lh ((bU.block _ (blkX hr.out)).trans hr.out)
        replace hn := Lh ((bU.block _ (blkX hn.out)).trans hn.out)
        replace hN := Lh (hN.out.below bU)
        replace hA := Lh (hA.out.below bU)
        have tn : U.cell? ⟨nb, 4, none⟩ = some (.slice na.C x1.cnt.length na.cC) := blkC hn.out 4
        have tnx := blkX hn.out
        replace hxv := Lh hxv; replace bU := Lh bU
        by_cases hkl : k < x1.cnt.length
        ·
         have k0 : (0 : Int) ≤ k := by omega
         have k1' : (k : Int) < (x1.cnt.length : Int) := by omega
         obtain ⟨Y, hY⟩ : ∃ Z, Z = U.drew := ⟨_, rfl⟩
         have bb : Below U.heap.size U Y := by rw [hY]; exact (Below.refl _ _).drew
         replace hO := Lh (hO.out.below bb)
         replace hcb := Lh ((bb.block _ (blkX hcb.out)).trans hcb.out)
         replace hw := Lh ((bb.block _ (blkX hw.out)).trans hw.out)
         replace hr := Lh ((bb.block _ (blkX hr.out)).trans hr.out)
         replace hn := Lh ((bb.block _ (blkX hn.out)).trans hn.out)
         replace hN := Lh (hN.out.below bb)
         replace hA := Lh (hA.out.below bb)
         clear bb
         replace hY := Lh hY
         have kY := Lh (show Below wc.heap.size wc Y from by have b := (Below.refl U.heap.size U).drew; rw [← hY.out] at b; exact bU.out.trans (b.mono bU.out.size))
         obtain ⟨nb1, no1, ny, hne1, nl1, nx1, nh1⟩ := SL.at_ hN.out.s.c hkl
         cases xv with
         | true =>
          have hne0 := Lh (hxv.out rfl)
          clear hxv
          as_aux_lemma =>
          go_wp2_with (fail)
          refine wp_region_held_drew (S := (fun W' : World => Below Y.heap.size Y W')) (by kernel_rfl) ?_ (fun hH => ?_)
          ·
           try rw [← hY.out]
           exact Below.refl _ _
          refine tl 0 hH ?_
          refine tl 1 hH ?_
          refine ts 2 hH ?_
          refine ts 3 hH ?_
          refine ts 4 hH ?_
          refine ts 5 hH ?_
          refine ts 6 hH ?_
          refine tl 7 hH ?_
          refine tl 8 hH ?_
          refine ts 9 hH ?_
          refine ts 10 hH ?_
          refine ts 11 hH ?_
          refine ts 12 hH ?_
          refine ts 13 hH ?_
          refine ts 14 hH ?_
          refine ts 15 hH ?_
          refine ts 16 hH ?_
          refine ts 17 hH ?_
          refine ts 18 hH ?_
          refine ts 19 hH ?_
          refine tl 20 hH ?_
          refine tl 21 hH ?_
          refine wpAnyH_done (by kernel_rfl) ?_ _
          clear hH
          go_wp2_with (fail)
          try rw [← hY.out]
          exact ⟨⟨k + 1, true, by omega, by go_num, rfl, fun _ => hne0.out, kY.out⟩, by simp [intOf]; omega⟩
         | false =>
          by_cases hkw : x.cnt.length ≤ k
          ·
           have q2 : ((x.cnt.length : Int) ≤ (k : Int)) = True := eq_true (by omega)
           as_aux_lemma =>
           go_wp2_with (fail)
           refine wp_region_held_drew (S := (fun W' : World => Below Y.heap.size Y W')) (by kernel_rfl) ?_ (fun hH => ?_)
           ·
            try rw [← hY.out]
            exact Below.refl _ _
           refine tl 0 hH ?_
           refine tl 1 hH ?_
           refine tl 2 hH ?_
           refine tl 3 hH ?_
           refine tk (i := 4) (v := ?_) (hy := .inl ⟨by rfl, by intro w hSw; have u : w.cell? ⟨wb, 4, none⟩ = some (.slice wa.C x.cnt.length wa.cC) := (hSw.cell (p := ⟨wb, _, none⟩) (blkX hw.out)).trans (blkC hw.out 4); go_simp; first | done | with_reducible rfl⟩) (hS := hH) (h := ?_)
           refine tl 5 hH ?_
           refine tl 6 hH ?_
           refine tl 7 hH ?_
           refine tl 8 hH ?_
           refine ts 9 hH ?_
           refine ts 10 hH ?_
           refine ts 11 hH ?_
           refine ts 12 hH ?_
           refine ts 13 hH ?_
           refine ts 14 hH ?_
           refine ts 15 hH ?_
           refine ts 16 hH ?_
           refine ts 17 hH ?_
           refine ts 18 hH ?_
           refine ts 19 hH ?_
           refine tl 20 hH ?_
           refine tl 21 hH ?_
           refine wpAnyH_done (by kernel_rfl) ?_ _
           clear hH
           go_wp2_with (fail)
           try rw [← hY.out]
           exact ⟨⟨k + 1, true, by omega, by go_num, rfl, fun _ e => by rw [e] at hkl; omega, kY.out⟩, by simp [intOf]; omega⟩
          ·
           have q2 : ((x.cnt.length : Int) ≤ (k : Int)) = False := eq_false (by omega)
           obtain ⟨wb1, wo1, wy, hwe1, wl1, wx1, wh1⟩ := SL.at_ hA.out.s.c (i := k) (by omega)
           have ns0 := nh1 0 _ rfl; have ws0 := wh1 0 _ rfl
           have ns1 := nh1 1 _ rfl; have ws1 := wh1 1 _ rfl
           have ns2 := nh1 2 _ rfl; have ws2 := wh1 2 _ rfl
           have ns3 := nh1 3 _ rfl; have ws3 := wh1 3 _ rfl
           have ns4 := nh1 4 _ rfl; have ws4 := wh1 4 _ rfl
           rw [Nat.add_zero] at ns0 ws0
           clear nh1 wh1
           rw [hne1] at tn
           replace nx1 := Lh nx1; replace wx1 := Lh wx1; replace hne1 := Lh hne1; replace hwe1 := Lh hwe1
           have kw1 : (k : Int) < (x.cnt.length : Int) := by omega
           by_cases hyw : ny = wy
           ·
            subst hyw
            as_aux_lemma =>
            go_wp2_with (fail)
            refine wp_region_held_drew (S := (fun W' : World => Below Y.heap.size Y W')) (by kernel_rfl) ?_ (fun hH => ?_)
            ·
             try rw [← hY.out]
             exact Below.refl _ _
            refine tl 0 hH ?_
            refine tl 1 hH ?_
            refine tl 2 hH ?_
            refine tl 3 hH ?_
            refine tk (i := 4) (v := ?_) (hy := .inl ⟨by rfl, by intro w hSw; have u : w.cell? ⟨wb, 4, none⟩ = some (.slice (some ⟨wb1, wo1, none⟩) x.cnt.length wa.cC) := hwe1.out ▸ (hSw.cell (p := ⟨wb, _, none⟩) (blkX hw.out)).trans (blkC hw.out 4); go_simp; first | done | with_reducible rfl⟩) (hS := hH) (h := ?_)
            refine tl 5 hH ?_
            refine tl 6 hH ?_
            refine tl 7 hH ?_
            refine tl 8 hH ?_
            refine tl 9 hH ?_
            refine tk (i := 10) (v := ?_) (hy := .inl ⟨by rfl, by intro w hSw; have u : w.cell? ⟨nb, 4, none⟩ = some (.slice (some ⟨nb1, no1, none⟩) x1.cnt.length na.cC) := hne1.out ▸ (hSw.cell (p := ⟨nb, _, none⟩) (blkX hn.out)).trans (blkC hn.out 4); go_simp; first | done | with_reducible rfl⟩) (hS := hH) (h := ?_)
            refine tl 11 hH ?_
            refine tl 12 hH ?_
            refine tk (i := 13) (v := ?_) (hy := .inl ⟨by rfl, by intro w hSw; have u0 := (hSw.cell (p := ⟨nb1, _, none⟩) nl1).trans ns0; have u1 := (hSw.cell (p := ⟨nb1, _, none⟩) nl1).trans ns1; have u2 := (hSw.cell (p := ⟨nb1, _, none⟩) nl1).trans ns2; have u3 := (hSw.cell (p := ⟨nb1, _, none⟩) nl1).trans ns3; have u4 := (hSw.cell (p := ⟨nb1, _, none⟩) nl1).trans ns4; go_simp; first | done | with_reducible rfl⟩) (hS := hH) (h := ?_)
            refine tl 14 hH ?_
            refine tk (i := 15) (v := ?_) (hy := .inl ⟨by rfl, by intro w hSw; have u : w.cell? ⟨wb, 4, none⟩ = some (.slice (some ⟨wb1, wo1, none⟩) x.cnt.length wa.cC) := hwe1.out ▸ (hSw.cell (p := ⟨wb, _, none⟩) (blkX hw.out)).trans (blkC hw.out 4); go_simp; first | done | with_reducible rfl⟩) (hS := hH) (h := ?_)
            refine tl 16 hH ?_
            refine tl 17 hH ?_
            refine tk (i := 18) (v := ?_) (hy := .inl ⟨by rfl, by intro w hSw; have u0 := (hSw.cell (p := ⟨wb1, _, none⟩) wl1).trans ws0; have u1 := (hSw.cell (p := ⟨wb1, _, none⟩) wl1).trans ws1; have u2 := (hSw.cell (p := ⟨wb1, _, none⟩) wl1).trans ws2; have u3 := (hSw.cell (p := ⟨wb1, _, none⟩) wl1).trans ws3; have u4 := (hSw.cell (p := ⟨wb1, _, none⟩) wl1).trans ws4; go_simp; first | done | with_reducible rfl⟩) (hS := hH) (h := ?_)
            refine tl 19 hH ?_
            refine tl 20 hH ?_
            refine tl 21 hH ?_
            refine wpAnyH_done (by kernel_rfl) ?_ _
            clear hH
            go_wp2_with (fail)
            try rw [← hY.out]
            exact ⟨⟨k + 1, false, by omega, by go_num, rfl, fun h => (by cases h), kY.out⟩, by simp [intOf]; omega⟩
           ·
            have hne : x1.cnt ≠ x.cnt := fun e => hyw (by have q := nx1.out; rw [e] at q; exact Option.some.inj (q.symm.trans wx1.out))
            replace hyw := Lh hyw; replace hne := Lh hne
            as_aux_lemma =>
            go_wp2_with (fail)
            refine wp_region_held_drew (S := (fun W' : World => Below Y.heap.size Y W')) (by kernel_rfl) ?_ (fun hH => ?_)
            ·
             try rw [← hY.out]
             exact Below.refl _ _
            refine tl 0 hH ?_
            refine tl 1 hH ?_
            refine tl 2 hH ?_
            refine tl 3 hH ?_
            refine tk (i := 4) (v := ?_) (hy := .inl ⟨by rfl, by intro w hSw; have u : w.cell? ⟨wb, 4, none⟩ = some (.slice (some ⟨wb1, wo1, none⟩) x.cnt.length wa.cC) := hwe1.out ▸ (hSw.cell (p := ⟨wb, _, none⟩) (blkX hw.out)).trans (blkC hw.out 4); go_simp; first | done | with_reducible rfl⟩) (hS := hH) (h := ?_)
            refine tl 5 hH ?_
            refine tl 6 hH ?_
            refine tl 7 hH ?_
            refine tl 8 hH ?_
            refine tl 9 hH ?_
            refine tk (i := 10) (v := ?_) (hy := .inl ⟨by rfl, by intro w hSw; have u : w.cell? ⟨nb, 4, none⟩ = some (.slice (some ⟨nb1, no1, none⟩) x1.cnt.length na.cC) := hne1.out ▸ (hSw.cell (p := ⟨nb, _, none⟩) (blkX hn.out)).trans (blkC hn.out 4); go_simp; first | done | with_reducible rfl⟩) (hS := hH) (h := ?_)
            refine tl 11 hH ?_
            refine tl 12 hH ?_
            refine tk (i := 13) (v := ?_) (hy := .inl ⟨by rfl, by intro w hSw; have u0 := (hSw.cell (p := ⟨nb1, _, none⟩) nl1).trans ns0; have u1 := (hSw.cell (p := ⟨nb1, _, none⟩) nl1).trans ns1; have u2 := (hSw.cell (p := ⟨nb1, _, none⟩) nl1).trans ns2; have u3 := (hSw.cell (p := ⟨nb1, _, none⟩) nl1).trans ns3; have u4 := (hSw.cell (p := ⟨nb1, _, none⟩) nl1).trans ns4; go_simp; first | done | with_reducible rfl⟩) (hS := hH) (h := ?_)
            refine tl 14 hH ?_
            refine tk (i := 15) (v := ?_) (hy := .inl ⟨by rfl, by intro w hSw; have u : w.cell? ⟨wb, 4, none⟩ = some (.slice (some ⟨wb1, wo1, none⟩) x.cnt.length wa.cC) := hwe1.out ▸ (hSw.cell (p := ⟨wb, _, none⟩) (blkX hw.out)).trans (blkC hw.out 4); go_simp; first | done | with_reducible rfl⟩) (hS := hH) (h := ?_)
            refine tl 16 hH ?_
            refine tl 17 hH ?_
            refine tk (i := 18) (v := ?_) (hy := .inl ⟨by rfl, by intro w hSw; have u0 := (hSw.cell (p := ⟨wb1, _, none⟩) wl1).trans ws0; have u1 := (hSw.cell (p := ⟨wb1, _, none⟩) wl1).trans ws1; have u2 := (hSw.cell (p := ⟨wb1, _, none⟩) wl1).trans ws2; have u3 := (hSw.cell (p := ⟨wb1, _, none⟩) wl1).trans ws3; have u4 := (hSw.cell (p := ⟨wb1, _, none⟩) wl1).trans ws4; go_simp; first | done | with_reducible rfl⟩) (hS := hH) (h := ?_)
            refine tk (i := 19) (v := .bool true) (hy := .inl ⟨by rfl, by intro w hSw; go_simp; exact fun h1 h2 h3 h4 h5 => hyw.out (Prod.ext h1 (Prod.ext h2 (Prod.ext h3 (Prod.ext h4 h5))))⟩) (hS := hH) (h := ?_)
            refine tl 20 hH ?_
            refine tl 21 hH ?_
            refine wpAnyH_done (by kernel_rfl) ?_ _
            clear hH
            go_wp2_with (fail)
            try rw [← hY.out]
            exact ⟨⟨k + 1, true, by omega, by go_num, rfl, fun _ => hne.out, kY.out⟩, by simp [intOf]; omega⟩
        ·
         have q2 : ((k : Int) < (x1.cnt.length : Int)) = False := eq_false (by omega)
         go_upto_if 132 with (fail)
         clear q2 tn tnx
         replace hkl := Lh hkl
         go_cut [] (fun wx => ∃ l', One V1 p1 x1 B l' wx ∧ wx.heap[ab]? = some (.cells (cdV cc) 40 (0, 0)) ∧ wx.heap[wb]? = some (.cells #[.int .i64 x.group, .int .i64 x.app, .slice wa.R x.own.length wa.cR, .slice wa.K x.cnt.length wa.cK, .slice wa.C x.cnt.length wa.cC, .slice wa.M x.mem.length wa.cM, .slice wa.G x.giv.length wa.cG, .slice wa.T x.tak.length wa.cT] 49 (0, 0)) ∧ wx.heap[rb]? = some (.cells #[.int .i64 r1, .int .i64 r2, .string r3] 52 (0, 0)) ∧ wx.heap[nb]? = some (.cells #[.int .i64 x1.group, .int .i64 x1.app, .slice na.R x1.own.length na.cR, .slice na.K x1.cnt.length na.cK, .slice na.C x1.cnt.length na.cC, .slice na.M x1.mem.length na.cM, .slice na.G x1.giv.length na.cG, .slice na.T x1.tak.length na.cT] 49 (0, 0)) ∧ StH wx p1 B x1 na ∧ ChI x1 l' ∧ l'.length ≤ j + 1)
         case first =>
          as_aux_lemma =>
          cases xv with
          | false =>
           go_wp2_with (fail)
           go_meet
           exact ⟨l, hO.out, hcb.out, hw.out, hr.out, hn.out, hN.out, hCk.out, by omega⟩
          | true =>
           obtain ⟨⟨n1, n2, n3⟩, ⟨f1, f2⟩, hC2⟩ := hCn.out (hxv.out rfl)
           have hok := (okK_of hcc.out hk1.out).1
           have hokb := (okE_iff cc.e).1 hok
           have ok2 : okE (cc.e.1, cc.e.2.1, 2) = true := by rw [okE_iff]; simp only; omega
           have ok3 : okE (cc.e.1, cc.e.2.1, 3) = true := by rw [okE_iff]; simp only; omega
           replace n1 := Lh n1
           replace n2 := Lh n2
           replace n3 := Lh n3
           replace f1 := Lh f1
           replace f2 := Lh f2
           replace hC2 := Lh hC2
           replace hok := Lh hok
           replace hokb := Lh hokb
           replace ok2 := Lh ok2
           replace ok3 := Lh ok3
           go_upto_region 25 with (fail)
           have t3 : U.cell? ⟨ab, 3, none⟩ = some (.int .i64 cc.e.1) := blkC hcb.out 3
           have t4 : U.cell? ⟨ab, 4, none⟩ = some (.int .i64 cc.e.2.1) := blkC hcb.out 4
           have tx := blkX hcb.out
           obtain ⟨Wx0, hWx0⟩ : ∃ Z, Z = U.alloc (.cells #[.int .i64 cc.e.1, .int .i64 cc.e.2.1, .int .i64 1] 30) := ⟨_, rfl⟩
           have bb : Below U.heap.size U Wx0 := by rw [hWx0]; exact (Below.refl _ _).alloc (Nat.le_refl _) _
           obtain ⟨fb, hfb⟩ : ∃ z, z = U.heap.size := ⟨_, rfl⟩
           have cfb := Lh (show Wx0.heap[fb]? = some (.cells #[.int .i64 cc.e.1, .int .i64 cc.e.2.1, .int .i64 1] 30 (0, 0)) by rw [hWx0, hfb]; exact hpNew _ _)
           replace hO := Lh (hO.out.below bb)
           replace hcb := Lh ((bb.block _ (blkX hcb.out)).trans hcb.out)
           replace hw := Lh ((bb.block _ (blkX hw.out)).trans hw.out)
           replace hr := Lh ((bb.block _ (blkX hr.out)).trans hr.out)
           replace hn := Lh ((bb.block _ (blkX hn.out)).trans hn.out)
           replace hN := Lh (hN.out.below bb)
           replace hA := Lh (hA.out.below bb)
           clear bb
           replace hWx0 := Lh hWx0; replace hfb := Lh hfb
           go_upto_region 26 with (fail)
           rw [← hfb.out]
           rw [← hWx0.out]
           clear t3 t4 tx
           go_upto_region 26 with (fail)
           have t3 : Wx0.cell? ⟨ab, 3, none⟩ = some (.int .i64 cc.e.1) := blkC hcb.out 3
           have t4 : Wx0.cell? ⟨ab, 4, none⟩ = some (.int .i64 cc.e.2.1) := blkC hcb.out 4
           have tx := blkX hcb.out
           obtain ⟨Wx1, hWx1⟩ : ∃ Z, Z = Wx0.alloc (.cells #[.int .i64 cc.e.1, .int .i64 cc.e.2.1, .int .i64 2] 30) := ⟨_, rfl⟩
           have bb : Below Wx0.heap.size Wx0 Wx1 := by rw [hWx1]; exact (Below.refl _ _).alloc (Nat.le_refl _) _
           obtain ⟨ub, hub⟩ : ∃ z, z = Wx0.heap.size := ⟨_, rfl⟩
           have cub := Lh (show Wx1.heap[ub]? = some (.cells #[.int .i64 cc.e.1, .int .i64 cc.e.2.1, .int .i64 2] 30 (0, 0)) by rw [hWx1, hub]; exact hpNew _ _)
           replace hO := Lh (hO.out.below bb)
           replace hcb := Lh ((bb.block _ (blkX hcb.out)).trans hcb.out)
           replace hw := Lh ((bb.block _ (blkX hw.out)).trans hw.out)
           replace hr := Lh ((bb.block _ (blkX hr.out)).trans hr.out)
           replace hn := Lh ((bb.block _ (blkX hn.out)).trans hn.out)
           replace hN := Lh (hN.out.below bb)
           replace hA := Lh (hA.out.below bb)
           replace cfb := Lh ((bb.block _ (blkX cfb.out)).trans cfb.out)
           clear bb
           replace hWx1 := Lh hWx1; replace hub := Lh hub
           go_upto_region 27 with (fail)
           rw [← hub.out]
           rw [← hWx1.out]
           clear t3 t4 tx
           go_upto_region 27 with (fail)
           have t3 : Wx1.cell? ⟨ab, 3, none⟩ = some (.int .i64 cc.e.1) := blkC hcb.out 3
           have t4 : Wx1.cell? ⟨ab, 4, none⟩ = some (.int .i64 cc.e.2.1) := blkC hcb.out 4
           have tx := blkX hcb.out
           obtain ⟨Wx2, hWx2⟩ : ∃ Z, Z = Wx1.alloc (.cells #[.int .i64 cc.e.1, .int .i64 cc.e.2.1, .int .i64 3] 30) := ⟨_, rfl⟩
           have bb : Below Wx1.heap.size Wx1 Wx2 := by rw [hWx2]; exact (Below.refl _ _).alloc (Nat.le_refl _) _
           obtain ⟨kb, hkb⟩ : ∃ z, z = Wx1.heap.size := ⟨_, rfl⟩
           have ckb := Lh (show Wx2.heap[kb]? = some (.cells #[.int .i64 cc.e.1, .int .i64 cc.e.2.1, .int .i64 3] 30 (0, 0)) by rw [hWx2, hkb]; exact hpNew _ _)
           replace hO := Lh (hO.out.below bb)
           replace hcb := Lh ((bb.block _ (blkX hcb.out)).trans hcb.out)
           replace hw := Lh ((bb.block _ (blkX hw.out)).trans hw.out)
           replace hr := Lh ((bb.block _ (blkX hr.out)).trans hr.out)
           replace hn := Lh ((bb.block _ (blkX hn.out)).trans hn.out)
           replace hN := Lh (hN.out.below bb)
           replace hA := Lh (hA.out.below bb)
           replace cfb := Lh ((bb.block _ (blkX cfb.out)).trans cfb.out)
           replace cub := Lh ((bb.block _ (blkX cub.out)).trans cub.out)
           clear bb
           replace hWx2 := Lh hWx2; replace hkb := Lh hkb
           go_upto_region 28 with (fail)
           rw [← hkb.out]
           rw [← hWx2.out]
           clear t3 t4 tx
           have t3 : Wx2.cell? ⟨fb, 0, none⟩ = some (.int .i64 cc.e.1) := blkC cfb.out 0
           have t4 : Wx2.cell? ⟨fb, 1, none⟩ = some (.int .i64 cc.e.2.1) := blkC cfb.out 1
           have t5 : Wx2.cell? ⟨fb, 2, none⟩ = some (.int .i64 1) := blkC cfb.out 2
           have tx := blkX cfb.out
           have hDn := shDone_any hO.out.s (cc.e.1, cc.e.2.1, 1)
           rw [hp1] at hDn
           obtain ⟨gf, qgf⟩ : ∃ z, z = getR x1.mem (cc.e.1, cc.e.2.1, 1) := ⟨_, rfl⟩
           obtain ⟨df, qdf⟩ : ∃ z, z = hasB x1.mem (cc.e.1, cc.e.2.1, 1) := ⟨_, rfl⟩
           rw [← qgf, ← qdf] at hDn
           obtain ⟨gf1, gf2, gf3⟩ := gf
           simp only at hDn
           replace qgf := Lh qgf; replace qdf := Lh qdf
           go_wp2_with (fail)
           clear t3 t4 t5 tx
           refine hDn.mono ?_
           rintro e Wya ⟨rfl, bb⟩
           clear hDn
           replace hO := Lh (hO.out.below bb)
           replace hcb := Lh ((bb.block _ (blkX hcb.out)).trans hcb.out)
           replace hw := Lh ((bb.block _ (blkX hw.out)).trans hw.out)
           replace hr := Lh ((bb.block _ (blkX hr.out)).trans hr.out)
           replace hn := Lh ((bb.block _ (blkX hn.out)).trans hn.out)
           replace hN := Lh (hN.out.below bb)
           replace hA := Lh (hA.out.below bb)
           replace cfb := Lh ((bb.block _ (blkX cfb.out)).trans cfb.out)
           replace cub := Lh ((bb.block _ (blkX cub.out)).trans cub.out)
           replace ckb := Lh ((bb.block _ (blkX ckb.out)).trans ckb.out)
           clear bb
           obtain ⟨Wy, hWy⟩ : ∃ Z, Z = Wya.alloc (.cells #[.int .i64 gf1, .int .i64 gf2, .string gf3] 52) := ⟨_, rfl⟩
           have bb : Below Wya.heap.size Wya Wy := by rw [hWy]; exact (Below.refl _ _).alloc (Nat.le_refl _) _
           obtain ⟨yb, hyb⟩ : ∃ z, z = Wya.heap.size := ⟨_, rfl⟩
           have hy := Lh (show Wy.heap[yb]? = some (.cells #[.int .i64 gf1, .int .i64 gf2, .string gf3] 52 (0, 0)) by rw [hWy, hyb]; exact hpNew _ _)
           replace hO := Lh (hO.out.below bb)
           replace hcb := Lh ((bb.block _ (blkX hcb.out)).trans hcb.out)
           replace hw := Lh ((bb.block _ (blkX hw.out)).trans hw.out)
           replace hr := Lh ((bb.block _ (blkX hr.out)).trans hr.out)
           replace hn := Lh ((bb.block _ (blkX hn.out)).trans hn.out)
           replace hN := Lh (hN.out.below bb)
           replace hA := Lh (hA.out.below bb)
           replace cfb := Lh ((bb.block _ (blkX cfb.out)).trans cfb.out)
           replace cub := Lh ((bb.block _ (blkX cub.out)).trans cub.out)
           replace ckb := Lh ((bb.block _ (blkX ckb.out)).trans ckb.out)
           clear bb
           replace hWy := Lh hWy; replace hyb := Lh hyb
           go_upto_region 29 with (fail)
           rw [← hyb.out]
           rw [← hWy.out]
           have hgf : gf1 = 0 := by have e := qgf.out; rw [← Prod.eta (getR x1.mem _)] at e; simp only [Prod.mk.injEq] at e; rw [e.1]; exact f2.out
           have hdf : df = true := qdf.out.trans f1.out
           subst hgf; subst hdf
           have l1 := hO.out.m.look cc.e hok.out; have l2 := hO.out.m.look (cc.e.1, cc.e.2.1, 2) ok2.out; have l3 := hO.out.m.look (cc.e.1, cc.e.2.1, 3) ok3.out
           rw [decide_eq_false n1.out] at l1; rw [decide_eq_false n2.out] at l2; rw [decide_eq_false n3.out] at l3
           simp only at l1 l2 l3
           obtain ⟨Wm, hrun, hmm, hmt⟩ := hO.out.m.put cc.e hok.out n1.out (by omega)
           replace hmm := Lh hmm; replace hmt := Lh hmt
           have t3 : Wy.cell? ⟨ab, 3, none⟩ = some (.int .i64 cc.e.1) := blkC hcb.out 3
           have t4 : Wy.cell? ⟨ab, 4, none⟩ = some (.int .i64 cc.e.2.1) := blkC hcb.out 4
           have t5 : Wy.cell? ⟨ab, 5, none⟩ = some (.int .i64 cc.e.2.2) := blkC hcb.out 5
           have tx := blkX hcb.out
           have uub0 : Wy.cell? ⟨ub, 0, none⟩ = some (.int .i64 cc.e.1) := blkC cub.out 0
           have uub1 : Wy.cell? ⟨ub, 1, none⟩ = some (.int .i64 cc.e.2.1) := blkC cub.out 1
           have uub2 : Wy.cell? ⟨ub, 2, none⟩ = some (.int .i64 2) := blkC cub.out 2
           have ukb0 : Wy.cell? ⟨kb, 0, none⟩ = some (.int .i64 cc.e.1) := blkC ckb.out 0
           have ukb1 : Wy.cell? ⟨kb, 1, none⟩ = some (.int .i64 cc.e.2.1) := blkC ckb.out 1
           have ukb2 : Wy.cell? ⟨kb, 2, none⟩ = some (.int .i64 3) := blkC ckb.out 2
           have ubx := blkX cub.out; have kbx := blkX ckb.out
           have y0 : Wy.cell? ⟨yb, 0, none⟩ = some (.int .i64 0) := blkC hy.out 0
           have yx := blkX hy.out
           go_wp2_with (fail)
           replace hcb := Lh (turned_cells hmt.out hO.out.m hcb.out)
           replace hw := Lh (turned_cells hmt.out hO.out.m hw.out)
           replace hr := Lh (turned_cells hmt.out hO.out.m hr.out)
           replace hn := Lh (turned_cells hmt.out hO.out.m hn.out)
           replace hN := Lh (hN.out.turned hmt.out)
           replace hA := Lh (hA.out.turned hmt.out)
           replace cfb := Lh (turned_cells hmt.out hO.out.m cfb.out)
           replace cub := Lh (turned_cells hmt.out hO.out.m cub.out)
           replace ckb := Lh (turned_cells hmt.out hO.out.m ckb.out)
           replace hy := Lh (turned_cells hmt.out hO.out.m hy.out)
           go_meet
           exact ⟨l ++ [cc.e], hO.out.put hmm.out hmt.out, hcb.out, hw.out, hr.out, hn.out, hN.out, hC2.out, by simp; omega⟩
         case rest =>
          as_aux_lemma =>
          clear hO hcb hw hr hn hN hA
          obtain ⟨l', hO, hcb, hw, hr, hn, hN, hCh2, hll2⟩ := hcut
          replace hO := Lh hO
          replace hcb := Lh hcb
          replace hw := Lh hw
          replace hr := Lh hr
          replace hn := Lh hn
          replace hN := Lh hN
          replace hCh2 := Lh hCh2
          rename World => wc_
          have hld := cd_load hcb.out
          have hap := ap12_any hO.out.s hL1.out.a0 (by have := hL1.out.a1; omega) (by have := hL1.out.own; omega) hO.out.bel.size cc (.inl hk1.out) hszy.out hoky.out.2.1.1 hoky.out.2.1.2
          rw [hp1] at hap
          obtain ⟨x2, qx2⟩ : ∃ z, z = apX x1 cc := ⟨_, rfl⟩
          rw [hag.out.1, ← qx2] at hap
          simp only [rpV] at hap
          have hL2 := Lh (show Lim (2 * j + 2) x2 from qx2 ▸ hL1.out.ap cc)
          have lk2 := Lh (show Like x1 x2 by rw [qx2]; exact hag.out.2)
          have hC3 := Lh (show ChI x2 l' by rw [qx2]; exact ChI.keep hCh2.out hO.out.s.ord hcc.out hk1.out)
          have hap2 : x2.app = x.app + 2 := by have := hL1.out.a1; have := happ.out; rw [qx2, (apX_own x1 cc).2.1]; unfold incS; simp only; omega
          replace qx2 := Lh qx2; replace hap2 := Lh hap2
          go_wp2_with (fail)
          clear hld
          refine hap.mono ?_
          rintro e Wha ⟨p2, rfl, ht⟩
          clear hap
          have hp2 : p2.S = S1 := ht.same.trans hp1
          replace hcb := Lh (ht.cells hO.out.s hcb.out (by decide))
          replace hw := Lh (ht.cells hO.out.s hw.out (by decide))
          replace hr := Lh (ht.cells hO.out.s hr.out (by decide))
          replace hn := Lh (ht.cells hO.out.s hn.out (by decide))
          replace hN := Lh (hN.out.sTo ht)
          replace hO := Lh (hO.out.sTo ht)
          clear ht
          obtain ⟨Wh2, hWh2⟩ : ∃ Z, Z = Wha.alloc (.cells #[.int .i64 r1, .int .i64 r2, .string r3] 52) := ⟨_, rfl⟩
          have bb : Below Wha.heap.size Wha Wh2 := by rw [hWh2]; exact (Below.refl _ _).alloc (Nat.le_refl _) _
          obtain ⟨zb, hzb⟩ : ∃ z, z = Wha.heap.size := ⟨_, rfl⟩
          have hz := Lh (show Wh2.heap[zb]? = some (.cells #[.int .i64 r1, .int .i64 r2, .string r3] 52 (0, 0)) by rw [hWh2, hzb]; exact hpNew _ _)
          replace hO := Lh (hO.out.below bb)
          replace hcb := Lh ((bb.block _ (blkX hcb.out)).trans hcb.out)
          replace hw := Lh ((bb.block _ (blkX hw.out)).trans hw.out)
          replace hr := Lh ((bb.block _ (blkX hr.out)).trans hr.out)
          replace hn := Lh ((bb.block _ (blkX hn.out)).trans hn.out)
          replace hN := Lh (hN.out.below bb)
          clear bb
          replace hWh2 := Lh hWh2; replace hzb := Lh hzb
          go_upto_region 33 with (fail)
          rw [← hzb.out]
          rw [← hWh2.out]
          obtain ⟨Y3, hY3⟩ : ∃ Z, Z = Wh2.drew := ⟨_, rfl⟩
          have bb : Below Wh2.heap.size Wh2 Y3 := by rw [hY3]; exact (Below.refl _ _).drew
          replace hO := Lh (hO.out.below bb)
          replace hcb := Lh ((bb.block _ (blkX hcb.out)).trans hcb.out)
          replace hw := Lh ((bb.block _ (blkX hw.out)).trans hw.out)
          replace hr := Lh ((bb.block _ (blkX hr.out)).trans hr.out)
          replace hn := Lh ((bb.block _ (blkX hn.out)).trans hn.out)
          replace hN := Lh (hN.out.below bb)
          replace hz := Lh ((bb.block _ (blkX hz.out)).trans hz.out)
          clear bb
          replace hY3 := Lh hY3
          have hSt := one_state hO.out (hL2.out.le (by omega))
          rw [hp2] at hSt
          have hz2 := Lh (hL2.out.sz (by omega) (by have := hO.out.s.cle; omega))
          have hwr : IntKind.i64.wrap (x.app + 2) = x.app + 2 := by have := hLx.out.a0; have := hLx.out.a1; simp [IntKind.wrap, IntKind.signed, IntKind.bits]; omega
          skip
          refine wp_region_held_drew (S := (fun W' : World => W'.heap[zb]? = some (.cells #[.int .i64 r1, .int .i64 r2, .string r3] 52 (0, 0)) ∧ W'.heap[rb]? = some (.cells #[.int .i64 r1, .int .i64 r2, .string r3] 52 (0, 0)) ∧ W'.heap[nb]? = some (.cells #[.int .i64 x1.group, .int .i64 x1.app, .slice na.R x1.own.length na.cR, .slice na.K x1.cnt.length na.cK, .slice na.C x1.cnt.length na.cC, .slice na.M x1.mem.length na.cM, .slice na.G x1.giv.length na.cG, .slice na.T x1.tak.length na.cT] 49 (0, 0)) ∧ W'.heap[wb]? = some (.cells #[.int .i64 x.group, .int .i64 x.app, .slice wa.R x.own.length wa.cR, .slice wa.K x.cnt.length wa.cK, .slice wa.C x.cnt.length wa.cC, .slice wa.M x.mem.length wa.cM, .slice wa.G x.giv.length wa.cG, .slice wa.T x.tak.length wa.cT] 49 (0, 0)))) (by kernel_rfl) ?_ (fun hH => ?_)
          ·
           try rw [← hY3.out]
           exact ⟨hz.out, hr.out, hn.out, hw.out⟩
          refine tk (i := 0) (v := ?_) (hy := .inl ⟨by rfl, by intro w hSw; have u0 : w.cell? ⟨zb, 0, none⟩ = some (.int .i64 r1) := blkC hSw.1 0; have u1 : w.cell? ⟨zb, 1, none⟩ = some (.int .i64 r2) := blkC hSw.1 1; have u2 : w.cell? ⟨zb, 2, none⟩ = some (.string r3) := blkC hSw.1 2; go_simp; first | done | with_reducible rfl⟩) (hS := hH) (h := ?_)
          refine tk (i := 1) (v := ?_) (hy := .inl ⟨by rfl, by intro w hSw; have u0 : w.cell? ⟨rb, 0, none⟩ = some (.int .i64 r1) := blkC hSw.2.1 0; have u1 : w.cell? ⟨rb, 1, none⟩ = some (.int .i64 r2) := blkC hSw.2.1 1; have u2 : w.cell? ⟨rb, 2, none⟩ = some (.string r3) := blkC hSw.2.1 2; go_simp; first | done | with_reducible rfl⟩) (hS := hH) (h := ?_)
          refine tl 2 hH ?_
          refine tl 3 hH ?_
          refine tl 4 hH ?_
          refine tk (i := 6) (v := ?_) (hy := .inl ⟨by rfl, by intro w hSw; have ld := st_load (x := x1) (a := na) hSw.2.2.1; go_simp; first | done | with_reducible rfl⟩) (hS := hH) (h := ?_)
          refine wpAnyH_ready (rs := [5]) (by kernel_rfl) (by simp) ?_
          refine AllReadyH.cons rfl (fun K hK => ?_) ?_
          ·
           clear hH
           try rw [← hY3.out]
           go_simp
           refine hSt.mono ?_
           rintro e Y5 ⟨la, rfl, hLa, bb⟩
           clear hSt
           replace hO := Lh (hO.out.below bb)
           replace hcb := Lh ((bb.block _ (blkX hcb.out)).trans hcb.out)
           replace hw := Lh ((bb.block _ (blkX hw.out)).trans hw.out)
           replace hr := Lh ((bb.block _ (blkX hr.out)).trans hr.out)
           replace hn := Lh ((bb.block _ (blkX hn.out)).trans hn.out)
           replace hN := Lh (hN.out.below bb)
           replace hz := Lh ((bb.block _ (blkX hz.out)).trans hz.out)
           clear bb
           have heq := one_equal hLa hN.out lk2.out.symm hz2.out
           refine hK _ _ ⟨hz.out, hr.out, hn.out, hw.out⟩ (fun hH => ?_)
           clear hK K
           refine wpAnyH_ready (rs := [7]) (by kernel_rfl) (by simp) ?_
           refine AllReadyH.cons rfl (fun K hK => ?_) ?_
           ·
            clear hH
            go_simp
            refine heq.mono ?_
            rintro e Y7 ⟨rfl, bb⟩
            clear heq
            replace hO := Lh (hO.out.below bb)
            replace hcb := Lh ((bb.block _ (blkX hcb.out)).trans hcb.out)
            replace hw := Lh ((bb.block _ (blkX hw.out)).trans hw.out)
            replace hr := Lh ((bb.block _ (blkX hr.out)).trans hr.out)
            replace hn := Lh ((bb.block _ (blkX hn.out)).trans hn.out)
            replace hN := Lh (hN.out.below bb)
            replace hz := Lh ((bb.block _ (blkX hz.out)).trans hz.out)
            clear bb
            have hAp := shApplied_any hO.out.s
            rw [hp2, hap2.out] at hAp
            refine hK _ _ ⟨hz.out, hr.out, hn.out, hw.out⟩ (fun hH => ?_)
            clear hK K
            refine tl 8 hH ?_
            refine tl 9 hH ?_
            refine tl 10 hH ?_
            refine tl 11 hH ?_
            refine tl 13 hH ?_
            refine tk (i := 14) (v := ?_) (hy := .inl ⟨by rfl, by intro w hSw; have u : w.cell? ⟨wb, 1, none⟩ = some (.int .i64 x.app) := blkC hSw.2.2.2 1; go_simp; first | done | with_reducible rfl⟩) (hS := hH) (h := ?_)
            refine tl 15 hH ?_
            refine wpAnyH_ready (rs := [12]) (by kernel_rfl) (by simp) ?_
            refine AllReadyH.cons rfl (fun K hK => ?_) ?_
            ·
             clear hH
             go_simp
             refine hAp.mono ?_
             rintro e Y8 ⟨rfl, hY8⟩
             subst hY8
             clear hAp
             refine hK _ _ ⟨hz.out, hr.out, hn.out, hw.out⟩ (fun hH => ?_)
             clear hK K
             refine tl 16 hH ?_
             refine tl 17 hH ?_
             refine wpAnyH_done (by kernel_rfl) ?_ _
             clear hH
             go_wp2_with (fail)
             exact ⟨⟨j + 1, p2, x2, l', by omega, by go_num, hp2, hO.out, by have := hL2.out; exact this, hC3.out, by omega⟩, by simp [intOf]; omega⟩
            exact AllReadyH.nil
           exact AllReadyH.nil
          exact AllReadyH.nil
    ·
     have hk2 : (cc.k != 1) = true := by simp [hk1]
     have hk3 : (cc.k == 1) = false := by simp [hk1]
     go_wp2_with (fail)
     exact ⟨⟨j + 1, p, x, l, by omega, by go_num, hp, hO.out, hLx.out.le (by omega), hCh.out, by omega⟩, by simp [intOf]; omega⟩
   ·
    have hjm : j = m := by omega
    subst hjm
    as_aux_lemma =>
    have hSt := one_state hO.out (hLx.out.le (by omega))
    rw [hp] at hSt
    go_wp2_with (fail)
    refine hSt.mono ?_
    rintro e Va ⟨la, rfl, hA, bb⟩
    clear hSt
    replace hO := Lh (hO.out.below bb)
    clear bb
    replace hA := Lh hA
    obtain ⟨Vb, hVb⟩ : ∃ Z, Z = Va.alloc (.cells #[.int .i64 x.group, .int .i64 x.app, .slice la.R x.own.length la.cR, .slice la.K x.cnt.length la.cK, .slice la.C x.cnt.length la.cC, .slice la.M x.mem.length la.cM, .slice la.G x.giv.length la.cG, .slice la.T x.tak.length la.cT] 49) := ⟨_, rfl⟩
    have bb : Below Va.heap.size Va Vb := by rw [hVb]; exact (Below.refl _ _).alloc (Nat.le_refl _) _
    obtain ⟨lb, hlb⟩ : ∃ z, z = Va.heap.size := ⟨_, rfl⟩
    have clb := Lh (show Vb.heap[lb]? = some (.cells #[.int .i64 x.group, .int .i64 x.app, .slice la.R x.own.length la.cR, .slice la.K x.cnt.length la.cK, .slice la.C x.cnt.length la.cC, .slice la.M x.mem.length la.cM, .slice la.G x.giv.length la.cG, .slice la.T x.tak.length la.cT] 49 (0, 0)) by rw [hVb, hlb]; exact hpNew _ _)
    replace hO := Lh (hO.out.below bb)
    replace hA := Lh (hA.out.below bb)
    clear bb
    replace hVb := Lh hVb; replace hlb := Lh hlb
    go_upto_region 36 with (fail)
    rw [← hlb.out]
    rw [← hVb.out]
    go_wp2_with (fail)
    go_loopw [25] (fun i wr => ∃ (k : Nat) (q : Pl) (y : Sh), k ≤ j ∧ i = .int .i64 k ∧ q.S = S1 ∧ One V1 q y B l wr ∧ Like x y ∧ Lim (2 * j + k) y ∧ wr.heap[lb]? = some (.cells #[.int .i64 x.group, .int .i64 x.app, .slice la.R x.own.length la.cR, .slice la.K x.cnt.length la.cK, .slice la.C x.cnt.length la.cC, .slice la.M x.mem.length la.cM, .slice la.G x.giv.length la.cG, .slice la.T x.tak.length la.cT] 49 (0, 0)) ∧ StH wr q B x la) (fun i _ => j - (intOf i).toNat)
    case atStart => exact ⟨0, p, x, by omega, rfl, hp, hO.out, Like.refl x, hLx.out, clb.out, hA.out⟩
    case round =>
     have hsz := Lh (hLx.out.sz (by omega) (by have := hO.out.s.cle; omega))
     clear hO clb hA hCh hLx hp
     revert wr
     intro U hrel
     obtain ⟨k, q, y, hk, rfl, hq, hO, lk, hLy, clb, hA⟩ := hrel
     replace hO := Lh hO
     replace lk := Lh lk
     replace hLy := Lh hLy
     replace clb := Lh clb
     replace hA := Lh hA
     have kv := Lh (k1.out.trans (hO.out.bel.mono k1.out.size))
     by_cases hkl : k < j
     ·
      obtain ⟨b, o, yy, hBe, hbv, hx, hcl⟩ := SL.at_ hc.out.sl hkl
      obtain ⟨hsy, hoky⟩ := hc.out.ok yy (List.mem_of_getElem? hx)
      have hszy := hS.out.2.2.2 yy (List.mem_of_getElem? hx)
      obtain ⟨cc, stp⟩ := yy
      simp only at hsy hoky hszy
      clear hsy hx
      subst hBe
      replace hoky := Lh hoky; replace hszy := Lh hszy
      have k0 : (0 : Int) ≤ k := by omega
      have k1' : (k : Int) < (j : Int) := by omega
      have t3 : U.cell? ⟨b, o + k * 24 + 3, none⟩ = some (.int .i64 cc.e.1) := (kv.out.cell (p := ⟨b, _, none⟩) hbv).trans (hcl 3 _ rfl)
      have t4 : U.cell? ⟨b, o + k * 24 + 4, none⟩ = some (.int .i64 cc.e.2.1) := (kv.out.cell (p := ⟨b, _, none⟩) hbv).trans (hcl 4 _ rfl)
      have t5 : U.cell? ⟨b, o + k * 24 + 5, none⟩ = some (.int .i64 cc.e.2.2) := (kv.out.cell (p := ⟨b, _, none⟩) hbv).trans (hcl 5 _ rfl)
      have tx : b < U.heap.size := Nat.lt_of_lt_of_le hbv kv.out.size
      have hDn := shDone_any hO.out.s cc.e
      rw [hq] at hDn
      obtain ⟨g, qg⟩ : ∃ z, z = getR y.mem cc.e := ⟨_, rfl⟩
      obtain ⟨d0, qd0⟩ : ∃ z, z = hasB y.mem cc.e := ⟨_, rfl⟩
      rw [← qg, ← qd0] at hDn
      obtain ⟨g1, g2, g3⟩ := g
      simp only at hDn
      replace qg := Lh qg; replace qd0 := Lh qd0
      replace hcl := Lh hcl
      go_wp2_with (fail)
      clear t3 t4 t5 tx
      refine hDn.mono ?_
      rintro e Ua ⟨rfl, bb⟩
      clear hDn
      replace hO := Lh (hO.out.below bb)
      replace clb := Lh ((bb.block _ (blkX clb.out)).trans clb.out)
      replace hA := Lh (hA.out.below bb)
      clear bb
      obtain ⟨Ub, hUb⟩ : ∃ Z, Z = Ua.alloc (.cells #[.int .i64 g1, .int .i64 g2, .string g3] 52) := ⟨_, rfl⟩
      have bb : Below Ua.heap.size Ua Ub := by rw [hUb]; exact (Below.refl _ _).alloc (Nat.le_refl _) _
      obtain ⟨db, hdb⟩ : ∃ z, z = Ua.heap.size := ⟨_, rfl⟩
      have cdb := Lh (show Ub.heap[db]? = some (.cells #[.int .i64 g1, .int .i64 g2, .string g3] 52 (0, 0)) by rw [hUb, hdb]; exact hpNew _ _)
      replace hO := Lh (hO.out.below bb)
      replace clb := Lh ((bb.block _ (blkX clb.out)).trans clb.out)
      replace hA := Lh (hA.out.below bb)
      clear bb
      replace hUb := Lh hUb; replace hdb := Lh hdb
      go_upto_region 40 with (fail)
      rw [← hdb.out]
      rw [← hUb.out]
      obtain ⟨Uc, hUc⟩ : ∃ Z, Z = Ub.drew := ⟨_, rfl⟩
      have bb : Below Ub.heap.size Ub Uc := by rw [hUc]; exact (Below.refl _ _).drew
      replace hO := Lh (hO.out.below bb)
      replace clb := Lh ((bb.block _ (blkX clb.out)).trans clb.out)
      replace hA := Lh (hA.out.below bb)
      replace cdb := Lh ((bb.block _ (blkX cdb.out)).trans cdb.out)
      clear bb
      replace hUc := Lh hUc
      clear kv
      have kv := Lh (k1.out.trans (hO.out.bel.mono k1.out.size))
      have hj60 : j ≤ 60 := hS.out.2.1
      by_cases hk1 : cc.k = 1
      ·
       have hck := check_cmd cc (by omega) (by omega) hszy.out Uc
       have hkb : (cc.k == 1) = true := by simp [hk1]
       cases hcc : checkB cc with
       | false =>
        simp only [hcc, Bool.false_eq_true, if_false] at hck
        replace hcc := Lh hcc; replace hk1 := Lh hk1
        as_aux_lemma =>
        go_wp2_with (fail)
        refine wp_region_held_drew (S := (fun W' : World => Below v.heap.size v W' ∧ W'.heap[db]? = some (.cells #[.int .i64 g1, .int .i64 g2, .string g3] 52 (0, 0)))) (by kernel_rfl) ?_ (fun hH => ?_)
        ·
         try rw [← hUc.out]
         exact ⟨kv.out, cdb.out⟩
        refine tl 0 hH ?_
        refine tl 1 hH ?_
        refine tl 2 hH ?_
        refine tl 3 hH ?_
        refine tk (i := 4) (v := ?_) (hy := .inl ⟨by rfl, by intro w hSw; have u : w.cell? ⟨b, o + k * 24, none⟩ = some (.int .i64 cc.k) := (hSw.1.cell (p := ⟨b, _, none⟩) hbv).trans (hcl.out 0 _ rfl); go_simp; first | done | with_reducible rfl⟩) (hS := hH) (h := ?_)
        refine tl 5 hH ?_
        refine tl 6 hH ?_
        refine tl 7 hH ?_
        refine tl 8 hH ?_
        refine tl 9 hH ?_
        refine tk (i := 10) (v := ?_) (hy := .inl ⟨by rfl, by intro w hSw; have ld := cd_load_at (c := (cc, stp)) (fun j u hu => (hSw.1.cell (p := ⟨b, _, none⟩) hbv).trans (hcl.out j u hu)); go_simp; first | done | with_reducible rfl⟩) (hS := hH) (h := ?_)
        refine wpAnyH_ready (rs := [11]) (by kernel_rfl) (by simp) ?_
        refine AllReadyH.cons rfl (fun K hK => ?_) ?_
        ·
         clear hH
         try rw [← hUc.out]
         go_simp
         refine hck.mono ?_
         rintro e Ud ⟨rfl, bb⟩
         clear hck
         replace hO := Lh (hO.out.below bb)
         replace clb := Lh ((bb.block _ (blkX clb.out)).trans clb.out)
         replace hA := Lh (hA.out.below bb)
         replace cdb := Lh ((bb.block _ (blkX cdb.out)).trans cdb.out)
         have kv := Lh (k1.out.trans (hO.out.bel.mono k1.out.size))
         clear bb
         refine hK _ _ ⟨kv.out, cdb.out⟩ (fun hH => ?_)
         clear hK K
         refine tl 12 hH ?_
         refine tl 13 hH ?_
         refine tl 14 hH ?_
         refine ts 15 hH ?_
         refine tl 16 hH ?_
         refine tl 17 hH ?_
         refine ts 18 hH ?_
         refine ts 19 hH ?_
         refine ts 20 hH ?_
         refine ts 21 hH ?_
         refine ts 22 hH ?_
         refine ts 23 hH ?_
         refine ts 24 hH ?_
         refine ts 25 hH ?_
         refine tl 26 hH ?_
         refine wpAnyH_done (by kernel_rfl) ?_ _
         clear hH
         go_wp2_with (fail)
         try rw [← hUc.out]
         exact ⟨⟨k + 1, q, y, by omega, by go_num, hq, hO.out, lk.out, hLy.out.le (by omega), clb.out, hA.out⟩, by simp [intOf]; omega⟩
        exact AllReadyH.nil
       | true =>
        simp only [hcc, if_true] at hck
        replace hcc := Lh hcc; replace hk1 := Lh hk1
        cases d0 with
        | false =>
         as_aux_lemma =>
         go_wp2_with (fail)
         refine wp_region_held_drew (S := (fun W' : World => Below v.heap.size v W' ∧ W'.heap[db]? = some (.cells #[.int .i64 g1, .int .i64 g2, .string g3] 52 (0, 0)))) (by kernel_rfl) ?_ (fun hH => ?_)
         ·
          try rw [← hUc.out]
          exact ⟨kv.out, cdb.out⟩
         refine tl 0 hH ?_
         refine tl 1 hH ?_
         refine tl 2 hH ?_
         refine tl 3 hH ?_
         refine tk (i := 4) (v := ?_) (hy := .inl ⟨by rfl, by intro w hSw; have u : w.cell? ⟨b, o + k * 24, none⟩ = some (.int .i64 cc.k) := (hSw.1.cell (p := ⟨b, _, none⟩) hbv).trans (hcl.out 0 _ rfl); go_simp; first | done | with_reducible rfl⟩) (hS := hH) (h := ?_)
         refine tl 5 hH ?_
         refine tl 6 hH ?_
         refine tl 7 hH ?_
         refine tl 8 hH ?_
         refine tl 9 hH ?_
         refine tk (i := 10) (v := ?_) (hy := .inl ⟨by rfl, by intro w hSw; have ld := cd_load_at (c := (cc, stp)) (fun j u hu => (hSw.1.cell (p := ⟨b, _, none⟩) hbv).trans (hcl.out j u hu)); go_simp; first | done | with_reducible rfl⟩) (hS := hH) (h := ?_)
         refine wpAnyH_ready (rs := [11]) (by kernel_rfl) (by simp) ?_
         refine AllReadyH.cons rfl (fun K hK => ?_) ?_
         ·
          clear hH
          try rw [← hUc.out]
          go_simp
          refine hck.mono ?_
          rintro e Ud ⟨rfl, bb⟩
          clear hck
          replace hO := Lh (hO.out.below bb)
          replace clb := Lh ((bb.block _ (blkX clb.out)).trans clb.out)
          replace hA := Lh (hA.out.below bb)
          replace cdb := Lh ((bb.block _ (blkX cdb.out)).trans cdb.out)
          have kv := Lh (k1.out.trans (hO.out.bel.mono k1.out.size))
          clear bb
          refine hK _ _ ⟨kv.out, cdb.out⟩ (fun hH => ?_)
          clear hK K
          refine tl 12 hH ?_
          refine tl 13 hH ?_
          refine tl 14 hH ?_
          refine tl 15 hH ?_
          refine tl 16 hH ?_
          refine tl 17 hH ?_
          refine ts 18 hH ?_
          refine ts 19 hH ?_
          refine ts 20 hH ?_
          refine ts 21 hH ?_
          refine ts 22 hH ?_
          refine ts 23 hH ?_
          refine ts 24 hH ?_
          refine ts 25 hH ?_
          refine tl 26 hH ?_
          refine wpAnyH_done (by kernel_rfl) ?_ _
          clear hH
          go_wp2_with (fail)
          try rw [← hUc.out]
          exact ⟨⟨k + 1, q, y, by omega, by go_num, hq, hO.out, lk.out, hLy.out.le (by omega), clb.out, hA.out⟩, by simp [intOf]; omega⟩
         exact AllReadyH.nil
        | true =>
         have hth := Lh (show apR y cc = (g1, g2, g3) ∧ apX y cc = incS y from by have q := ap_there (x := y) hcc.out hk1.out qd0.out.symm; exact ⟨q.1.trans qg.out.symm, q.2⟩)
         have lk' := Lh (show Like x (apX y cc) by rw [hth.out.2]; exact lk.out.trans (like_inc y))
         have hL' := Lh (show Lim (2 * j + (k + 1)) (apX y cc) from (hLy.out.ap cc).le (by omega))
         as_aux_lemma =>
         go_wp2_with (fail)
         refine wp_region_held_drew (S := (fun W' : World => Below v.heap.size v W' ∧ W'.heap[db]? = some (.cells #[.int .i64 g1, .int .i64 g2, .string g3] 52 (0, 0)))) (by kernel_rfl) ?_ (fun hH => ?_)
         ·
          try rw [← hUc.out]
          exact ⟨kv.out, cdb.out⟩
         refine tl 0 hH ?_
         refine tl 1 hH ?_
         refine tl 2 hH ?_
         refine tl 3 hH ?_
         refine tk (i := 4) (v := ?_) (hy := .inl ⟨by rfl, by intro w hSw; have u : w.cell? ⟨b, o + k * 24, none⟩ = some (.int .i64 cc.k) := (hSw.1.cell (p := ⟨b, _, none⟩) hbv).trans (hcl.out 0 _ rfl); go_simp; first | done | with_reducible rfl⟩) (hS := hH) (h := ?_)
         refine tl 5 hH ?_
         refine tl 6 hH ?_
         refine tl 7 hH ?_
         refine tl 8 hH ?_
         refine tl 9 hH ?_
         refine tk (i := 10) (v := ?_) (hy := .inl ⟨by rfl, by intro w hSw; have ld := cd_load_at (c := (cc, stp)) (fun j u hu => (hSw.1.cell (p := ⟨b, _, none⟩) hbv).trans (hcl.out j u hu)); go_simp; first | done | with_reducible rfl⟩) (hS := hH) (h := ?_)
         refine wpAnyH_ready (rs := [11]) (by kernel_rfl) (by simp) ?_
         refine AllReadyH.cons rfl (fun K hK => ?_) ?_
         ·
          clear hH
          try rw [← hUc.out]
          go_simp
          refine hck.mono ?_
          rintro e Ud ⟨rfl, bb⟩
          clear hck
          replace hO := Lh (hO.out.below bb)
          replace clb := Lh ((bb.block _ (blkX clb.out)).trans clb.out)
          replace hA := Lh (hA.out.below bb)
          replace cdb := Lh ((bb.block _ (blkX cdb.out)).trans cdb.out)
          have kv := Lh (k1.out.trans (hO.out.bel.mono k1.out.size))
          clear bb
          refine hK _ _ ⟨kv.out, cdb.out⟩ (fun hH => ?_)
          clear hK K
          refine tl 12 hH ?_
          refine tl 13 hH ?_
          refine tl 14 hH ?_
          refine tl 15 hH ?_
          refine tl 16 hH ?_
          refine tl 17 hH ?_
          refine tl 18 hH ?_
          refine tl 19 hH ?_
          refine tl 20 hH ?_
          refine tl 21 hH ?_
          refine tk (i := 22) (v := ?_) (hy := .inl ⟨by rfl, by intro w hSw; have ld := cd_load_at (c := (cc, stp)) (fun j u hu => (hSw.1.cell (p := ⟨b, _, none⟩) hbv).trans (hcl.out j u hu)); go_simp; first | done | with_reducible rfl⟩) (hS := hH) (h := ?_)
          refine tk (i := 24) (v := ?_) (hy := .inl ⟨by rfl, by intro w hSw; have u0 : w.cell? ⟨db, 0, none⟩ = some (.int .i64 g1) := blkC hSw.2 0; have u1 : w.cell? ⟨db, 1, none⟩ = some (.int .i64 g2) := blkC hSw.2 1; have u2 : w.cell? ⟨db, 2, none⟩ = some (.string g3) := blkC hSw.2 2; go_simp; first | done | with_reducible rfl⟩) (hS := hH) (h := ?_)
          refine wpAnyH_ready (rs := [23]) (by kernel_rfl) (by simp) ?_
          refine AllReadyH.cons rfl (fun K hK => ?_) ?_
          ·
           clear hH
           try rw [← hUc.out]
           go_simp
           have hap := ap12_any hO.out.s hLy.out.a0 (by have := hLy.out.a1; omega) (by have := hLy.out.own; omega) hO.out.bel.size cc (.inl hk1.out) hszy.out hoky.out.2.1.1 hoky.out.2.1.2
           rw [hq, hth.out.1] at hap
           simp only [rpV] at hap
           refine hap.mono ?_
           rintro e Ue ⟨q', rfl, ht⟩
           clear hap
           have hq' : q'.S = S1 := ht.same.trans hq
           replace cdb := Lh (ht.cells hO.out.s cdb.out (by decide))
           replace clb := Lh (ht.cells hO.out.s clb.out (by decide))
           replace hA := Lh (hA.out.sTo ht)
           replace hO := Lh (hO.out.sTo ht)
           clear ht
           have kv := Lh (k1.out.trans (hO.out.bel.mono k1.out.size))
           refine hK _ _ ⟨kv.out, cdb.out⟩ (fun hH => ?_)
           clear hK K
           refine tl 25 hH ?_
           refine tl 26 hH ?_
           refine wpAnyH_done (by kernel_rfl) ?_ _
           clear hH
           go_wp2_with (fail)
           try rw [← hUc.out]
           exact ⟨⟨k + 1, q', _, by omega, by go_num, hq', hO.out, lk'.out, hL'.out, clb.out, hA.out⟩, by simp [intOf]; omega⟩
          exact AllReadyH.nil
         exact AllReadyH.nil
      ·
       have hkb : (cc.k == 1) = false := by simp [hk1]
       as_aux_lemma =>
       go_wp2_with (fail)
       refine wp_region_held_drew (S := (fun W' : World => Below v.heap.size v W' ∧ W'.heap[db]? = some (.cells #[.int .i64 g1, .int .i64 g2, .string g3] 52 (0, 0)))) (by kernel_rfl) ?_ (fun hH => ?_)
       ·
        try rw [← hUc.out]
        exact ⟨kv.out, cdb.out⟩
       refine tl 0 hH ?_
       refine tl 1 hH ?_
       refine tl 2 hH ?_
       refine tl 3 hH ?_
       refine tk (i := 4) (v := ?_) (hy := .inl ⟨by rfl, by intro w hSw; have u : w.cell? ⟨b, o + k * 24, none⟩ = some (.int .i64 cc.k) := (hSw.1.cell (p := ⟨b, _, none⟩) hbv).trans (hcl.out 0 _ rfl); go_simp; first | done | with_reducible rfl⟩) (hS := hH) (h := ?_)
       refine tl 5 hH ?_
       refine tl 6 hH ?_
       refine ts 7 hH ?_
       refine ts 8 hH ?_
       refine ts 9 hH ?_
       refine ts 10 hH ?_
       refine ts 11 hH ?_
       refine ts 12 hH ?_
       refine tl 13 hH ?_
       refine tl 14 hH ?_
       refine ts 15 hH ?_
       refine tl 16 hH ?_
       refine tl 17 hH ?_
       refine ts 18 hH ?_
       refine ts 19 hH ?_
       refine ts 20 hH ?_
       refine ts 21 hH ?_
       refine ts 22 hH ?_
       refine ts 23 hH ?_
       refine ts 24 hH ?_
       refine ts 25 hH ?_
       refine tl 26 hH ?_
       refine wpAnyH_done (by kernel_rfl) ?_ _
       clear hH
       go_wp2_with (fail)
       try rw [← hUc.out]
       exact ⟨⟨k + 1, q, y, by omega, by go_num, hq, hO.out, lk.out, hLy.out.le (by omega), clb.out, hA.out⟩, by simp [intOf]; omega⟩
     ·
      have q2 : ((k : Int) < (j : Int)) = False := eq_false (by omega)
      go_upto_region 42 with (fail)
      clear q2
      obtain ⟨Uc, hUc⟩ : ∃ Z, Z = U.drew := ⟨_, rfl⟩
      have bb : Below U.heap.size U Uc := by rw [hUc]; exact (Below.refl _ _).drew
      replace hO := Lh (hO.out.below bb)
      replace clb := Lh ((bb.block _ (blkX clb.out)).trans clb.out)
      replace hA := Lh (hA.out.below bb)
      clear bb
      replace hUc := Lh hUc
      have hSt := one_state hO.out (hLy.out.le (by have := hS.out.2.1; omega))
      rw [hq] at hSt
      refine wp_region_held_drew (S := (fun W' : World => W'.heap[lb]? = some (.cells #[.int .i64 x.group, .int .i64 x.app, .slice la.R x.own.length la.cR, .slice la.K x.cnt.length la.cK, .slice la.C x.cnt.length la.cC, .slice la.M x.mem.length la.cM, .slice la.G x.giv.length la.cG, .slice la.T x.tak.length la.cT] 49 (0, 0)))) (by kernel_rfl) ?_ (fun hH => ?_)
      ·
       try rw [← hUc.out]
       exact clb.out
      refine tl 0 hH ?_
      refine tk (i := 2) (v := ?_) (hy := .inl ⟨by rfl, by intro w hSw; have ld := st_load (x := x) (a := la) hSw; go_simp; first | done | with_reducible rfl⟩) (hS := hH) (h := ?_)
      refine wpAnyH_ready (rs := [1]) (by kernel_rfl) (by simp) ?_
      refine AllReadyH.cons rfl (fun K hK => ?_) ?_
      ·
       clear hH
       try rw [← hUc.out]
       go_simp
       refine hSt.mono ?_
       rintro e Ud ⟨ya, rfl, hY, bb⟩
       clear hSt
       replace hO := Lh (hO.out.below bb)
       replace clb := Lh ((bb.block _ (blkX clb.out)).trans clb.out)
       replace hA := Lh (hA.out.below bb)
       clear bb
       have heq := one_equal hY hA.out lk.out.symm (by have q := hsz.out; have l := lk.out; unfold Like at l; rw [l]; exact ⟨q.r, q.c, q.m, q.g, q.t⟩)
       refine hK _ _ clb.out (fun hH => ?_)
       clear hK K
       refine wpAnyH_ready (rs := [3]) (by kernel_rfl) (by simp) ?_
       refine AllReadyH.cons rfl (fun K hK => ?_) ?_
       ·
        clear hH
        go_simp
        refine heq.mono ?_
        rintro e Ue ⟨rfl, bb⟩
        clear heq
        replace hO := Lh (hO.out.below bb)
        replace clb := Lh ((bb.block _ (blkX clb.out)).trans clb.out)
        replace hA := Lh (hA.out.below bb)
        clear bb
        refine hK _ _ clb.out (fun hH => ?_)
        clear hK K
        refine tl 4 hH ?_
        refine wpAnyH_ready (rs := [5]) (by kernel_rfl) (by simp) ?_
        refine AllReadyH.cons rfl (fun K hK => ?_) ?_
        ·
         clear hH
         go_simp
         refine (works_any _).mono ?_
         rintro e Uf ⟨rfl, bb⟩
         replace hO := Lh (hO.out.below bb)
         replace clb := Lh ((bb.block _ (blkX clb.out)).trans clb.out)
         replace hA := Lh (hA.out.below bb)
         clear bb
         refine hK _ _ clb.out (fun hH => ?_)
         clear hK K
         refine tl 6 hH ?_
         refine tl 7 hH ?_
         refine wpAnyH_done (by kernel_rfl) ?_ _
         clear hH
         go_wp2_with (fail)
         go_ret
         exact ⟨rfl, k1.out.trans (hO.out.bel.mono k1.out.size)⟩
        exact AllReadyH.nil
       exact AllReadyH.nil
      exact AllReadyH.nil
end Go.Proofs.YtgnjnpddehdmcaaGreatDoor
