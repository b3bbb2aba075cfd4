/- out. -/
import Derived.Test.YtgnjnpddehdmcaaGreatDoorOwn
import Derived.Test.YtgnjnpddehdmcaaGreatDoorEnc
import Derived.Test.YtgnjnpddehdmcaaGreatDoorConcG
import Derived.Test.YtgnjnpddehdmcaaGreatDoorTkI
import Derived.Test.YtgnjnpddehdmcaaGreatDoorRowK
namespace Go.Proofs.YtgnjnpddehdmcaaGreatDoor
open Go.RowKit Go.Shelf
set_option linter.unusedSimpArgs false
set_option linter.unusedVariables false
set_option linter.unusedSectionVars false
set_option maxRecDepth 10000
theorem undI2 : Tryz.prog.underlying 3 = some (.int .i64) := Tryz.underlying3
theorem undGv : Tryz.prog.underlying 85 = some (.map 3 9) := Tryz.underlying85
attribute [-go_sem] sliced
attribute [local go_sem ↓] hideAppend
set_option maxHeartbeats 16000000 in
theorem shOut_any {base : Nat} {p : Pl} {x : Sh} {v : World} (h : ShW base p x v) (hbv : base ≤ v.heap.size) (hn : x.own.length ≤ 10000) (hgl : x.giv.length ≤ 1000000) (c : Cd) (hr : szG c.r) (hm1 : -9223372036854775808 ≤ c.mv) (hm2 : c.mv ≤ 9223372036854775807) : Calls Tryz.prog 30 #[.pointer (some ⟨p.S, 0, none⟩), .agg (cdV c)] v fun e w' => e = .returned (.agg #[.int .i64 (outR x c).1, .int .i64 (outR x c).2.1, .string (outR x c).2.2]) ∧ ∃ p', ShTo base p p' (outX x c) v w' := by
 obtain ⟨fr, hfr⟩ : ∃ z, z = outR x c := ⟨_, rfl⟩
 obtain ⟨fx, hfx⟩ : ∃ z, z = outX x c := ⟨_, rfl⟩
 rw [← hfr, ← hfx]
 unfold outR at hfr; unfold outX at hfx
 obtain ⟨W1, hW1⟩ : ∃ W1, W1 = ((v.alloc (.cells (cdV c) 40)).alloc (.cells #[.int .i64 0, .int .i64 0, .string ⟨#[]⟩] 52)) := ⟨_, rfl⟩
 have k1 : Below v.heap.size v W1 := by rw [hW1]; exact ((Below.refl _ v).alloc (Nat.le_refl _) _).alloc (by simp <;> omega) _
 have b0 : W1.heap[v.heap.size]? = some (.cells (cdV c) 40 (0, 0)) := by rw [hW1]; repeat (first | exact hpNewAt _ (by simp) | exact hpNew _ _ | refine (hpOld _ (by simp <;> omega)).trans ?_)
 have b1 : W1.heap[v.heap.size + 1]? = some (.cells #[.int .i64 0, .int .i64 0, .string ⟨#[]⟩] 52 (0, 0)) := by rw [hW1]; repeat (first | exact hpNewAt _ (by simp) | exact hpNew _ _ | refine (hpOld _ (by simp <;> omega)).trans ?_)
 have h1 := h.below k1
 have hwf : (Lit.int .i64 c.mv).wf = true := by simp [Lit.wf, IntKind.min, IntKind.max, IntKind.signed, IntKind.bits]; omega
 have hSv : ∀ W' : World, Below W1.heap.size W1 W' → (fun W' : World => W'.heap[p.S]? = some (.cells (shV p x) 88 (0, 0)) ∧ W'.heap[v.heap.size]? = some (.cells (cdV c) 40 (0, 0)) ∧ MapI Tryz.prog 3 givE W' p.G x.giv) W' := fun W' hb => ⟨(h1.below hb).blk, (hb.block _ (blkX b0)).trans b0, (h1.below hb).giv⟩
 have hlk := fun (W : World) (hm : MapI Tryz.prog 3 givE W p.G x.giv) => MapI.look_ok hm undI2 undGv (Tryz.zeroValue9 W) c.mv hwf
 have hsy : ∀ (i : Nat) (g : Rg), x.own[i]? = some g → okG g = true := fun i g hg => h.ok g (List.mem_of_getElem? hg)
 have hidx := fun (W : World) (hb : Below W1.heap.size W1 W) => idxG_any (g := 73) (lb := #[.pointer (some ⟨v.heap.size, 0, none⟩)]) (c := p.c) (p := fun g => insB c.r g) (enters_of Tryz.func73 (by kernel_rfl) rfl) (h1.below hb).gs (by omega) (fun y hy W' hb' => out1_any c y.1 y.2 v.heap.size W' ((hb'.block _ (blkX ((hb.block _ (blkX b0)).trans b0))).trans ((hb.block _ (blkX b0)).trans b0)) hr (okG_sz (h1.ok y hy)))
 obtain ⟨Y, hY⟩ : ∃ W, W = W1.drew := ⟨_, rfl⟩
 have kY : Below W1.heap.size W1 Y := by rw [hY]; exact (Below.refl _ _).drew
 have e1 := (kY.block _ (blkX b1)).trans b1
 replace h := Lh h; replace h1 := Lh h1; replace k1 := Lh k1; replace b0 := Lh b0; replace b1 := Lh b1; replace hSv := Lh hSv; replace hidx := Lh hidx; replace hsy := Lh hsy; replace hY := Lh hY; replace kY := Lh kY; replace e1 := Lh e1
 cases hgv : lookA x.giv c.mv with
 | some d =>
  have e2 : fr = (0, 0, d) := by rw [hfr, hgv]
  have e3 : x = fx := by rw [hfx, hgv]
  clear hfr hfx
  subst e2; subst e3
  rw [hgv, show hasA x.giv c.mv = true from by unfold hasA; rw [hgv]; rfl] at hlk
  simp only [Option.map_some, Option.getD_some] at hlk
  replace hgv := Lh hgv
  go_enter Tryz.func30, Tryz.ntmps30
  go_wp2_with (fail)
  rw [← hW1]
  replace hW1 := Lh hW1
  refine wp_region_held_drew (S := (fun W' : World => W'.heap[p.S]? = some (.cells (shV p x) 88 (0, 0)) ∧ W'.heap[v.heap.size]? = some (.cells (cdV c) 40 (0, 0)) ∧ MapI Tryz.prog 3 givE W' p.G x.giv)) (by kernel_rfl) ?_ (fun hH => ?_)
  ·
   rw [← hY.out]
   exact hSv.out _ kY.out
  refine tl 0 hH ?_
  refine tl 1 hH ?_
  refine tl 2 hH ?_
  refine tk (i := 3) (v := ?_) (hy := .inl ⟨by rfl, by intro w hSw; obtain ⟨sS, sC, sM⟩ := hSw; have t0 : w.cell? ⟨p.S, 5, none⟩ = some (.map (some p.G)) := blkC sS 5; go_simp; first | done | with_reducible rfl⟩) (hS := hH) (h := ?_)
  refine tl 4 hH ?_
  refine tk (i := 5) (v := ?_) (hy := .inl ⟨by rfl, by intro w hSw; obtain ⟨sS, sC, sM⟩ := hSw; have t0 : w.cell? ⟨v.heap.size, 8, none⟩ = some (.int .i64 c.mv) := blkC sC 8; go_simp; first | done | with_reducible rfl⟩) (hS := hH) (h := ?_)
  refine tk (i := 6) (v := ?_) (hy := .inl ⟨by rfl, by intro w hSw; obtain ⟨sS, sC, sM⟩ := hSw; have t0 := hlk w sM; go_simp; first | done | with_reducible rfl⟩) (hS := hH) (h := ?_)
  refine tl 7 hH ?_
  refine tl 8 hH ?_
  refine tl 9 hH ?_
  refine tl 10 hH ?_
  refine tl 11 hH ?_
  refine wpAnyH_done (by kernel_rfl) ?_ _
  clear hH hlk
  rw [← hY.out]
  replace e1 := e1.out
  have s0 := blkC e1 0
  have s1 := blkC e1 1
  have s2 := blkC e1 2
  have sf := blkF e1; have sx := blkX e1
  simp only [List.getElem?_toArray, List.getElem?_cons_zero, List.getElem?_cons_succ] at s0 s1 s2
  go_wp2_with (fail)
  refine bodyPost_ret (by simp [results, Tryz.results30, go_sem, *]; try with_reducible rfl) rfl ?_
  exact ⟨rfl, p, (ShTo.set (ShTo.set (ShTo.set (ShTo.below h.out (k1.out.trans (kY.out.mono k1.out.size))) (a := ⟨v.heap.size + 1, 0, none⟩) (by simp only; omega) (h.out.out (by simp only; omega)) _) (a := ⟨v.heap.size + 1, 1, none⟩) (by simp only; omega) (h.out.out (by simp only; omega)) _) (a := ⟨v.heap.size + 1, 2, none⟩) (by simp only; omega) (h.out.out (by simp only; omega)) _)⟩
 | none =>
  rw [hgv, show hasA x.giv c.mv = false from by unfold hasA; rw [hgv]; rfl] at hlk
  simp only [Option.map_none, Option.getD_none] at hlk
  simp only [hgv] at hfr hfx
  replace hgv := Lh hgv
  replace hfr := Lh hfr; replace hfx := Lh hfx
  go_enter Tryz.func30, Tryz.ntmps30
  go_wp2_with (fail)
  rw [← hW1]
  replace hW1 := Lh hW1
  apply joinArm (F := fun V => Y = V)
  ·
   intro hfin
   refine wp_region_held_drew (S := (fun W' : World => W'.heap[p.S]? = some (.cells (shV p x) 88 (0, 0)) ∧ W'.heap[v.heap.size]? = some (.cells (cdV c) 40 (0, 0)) ∧ MapI Tryz.prog 3 givE W' p.G x.giv)) (by kernel_rfl) ?_ (fun hH => ?_)
   ·
    rw [← hY.out]
    exact hSv.out _ kY.out
   refine tl 0 hH ?_
   refine tl 1 hH ?_
   refine tl 2 hH ?_
   refine tk (i := 3) (v := ?_) (hy := .inl ⟨by rfl, by intro w hSw; obtain ⟨sS, sC, sM⟩ := hSw; have t0 : w.cell? ⟨p.S, 5, none⟩ = some (.map (some p.G)) := blkC sS 5; go_simp; first | done | with_reducible rfl⟩) (hS := hH) (h := ?_)
   refine tl 4 hH ?_
   refine tk (i := 5) (v := ?_) (hy := .inl ⟨by rfl, by intro w hSw; obtain ⟨sS, sC, sM⟩ := hSw; have t0 : w.cell? ⟨v.heap.size, 8, none⟩ = some (.int .i64 c.mv) := blkC sC 8; go_simp; first | done | with_reducible rfl⟩) (hS := hH) (h := ?_)
   refine tk (i := 6) (v := ?_) (hy := .inl ⟨by rfl, by intro w hSw; obtain ⟨sS, sC, sM⟩ := hSw; have t0 := hlk w sM; go_simp; first | done | with_reducible rfl⟩) (hS := hH) (h := ?_)
   refine tl 7 hH ?_
   refine tl 8 hH ?_
   refine tl 9 hH ?_
   refine tl 10 hH ?_
   refine tl 11 hH ?_
   refine wpAnyH_done (by kernel_rfl) ?_ _
   clear hH
   exact hfin _ hY.out
  ·
   intro V0 hVY
   subst hVY
   have hq := hidx.out _ kY.out
   have c2 : Y.cell? ⟨p.S, 2, none⟩ = some (.slice p.A x.own.length p.c) := blkC (h1.out.below kY.out).blk 2
   have x2 := blkX (h1.out.below kY.out).blk
   have hcas : idxOf (fun g => insB c.r g) x.own = (match outI x c.r with | some i => (i : Int) | none => -1) := rfl
   rw [hcas] at hq
   clear hcas hlk
   cases hoi : outI x c.r with
   | none =>
    rw [hoi] at hq
    simp only at hq
    have e2 : fr = (16, 0, noText) := by rw [hfr.out, hoi]
    have e3 : x = fx := by rw [hfx.out, hoi]
    subst e2; subst e3
    replace hoi := Lh hoi
    go_wp2_with (fail)
    refine hq.mono ?_
    rintro e V2 ⟨rfl, b2⟩
    have k2 := Lh (kY.out.trans (b2.mono kY.out.size))
    have e5 := Lh ((b2.block _ (blkX e1.out)).trans e1.out)
    clear b2 hq c2 x2
    go_wp2_with (fail)
    refine (refused_any 16 _).mono ?_
    rintro e V3 ⟨rfl, b3⟩
    have k3 := Lh (k2.out.trans (b3.mono k2.out.size))
    have e4 := (b3.block _ (blkX e5.out)).trans e5.out
    clear b3
    have s0 := blkC e4 0
    have s1 := blkC e4 1
    have s2 := blkC e4 2
    have sf := blkF e4; have sx := blkX e4
    simp only [List.getElem?_toArray, List.getElem?_cons_zero, List.getElem?_cons_succ] at s0 s1 s2
    go_wp2_with (fail)
    refine bodyPost_ret (by simp [results, Tryz.results30, go_sem, *]; try with_reducible rfl) rfl ?_
    exact ⟨rfl, p, (ShTo.set (ShTo.set (ShTo.set (ShTo.below h.out (k1.out.trans (k3.out.mono k1.out.size))) (a := ⟨v.heap.size + 1, 0, none⟩) (by simp only; omega) (h.out.out (by simp only; omega)) _) (a := ⟨v.heap.size + 1, 1, none⟩) (by simp only; omega) (h.out.out (by simp only; omega)) _) (a := ⟨v.heap.size + 1, 2, none⟩) (by simp only; omega) (h.out.out (by simp only; omega)) _)⟩
   | some i =>
    rw [hoi] at hq
    simp only at hq
    have hii := List.findIdx?_eq_some_iff_getElem.1 hoi
    obtain ⟨hil, hin, -⟩ := hii
    obtain ⟨g, hg⟩ : ∃ g, x.own[i]? = some g := ⟨_, List.getElem?_eq_getElem hil⟩
    rw [(List.getElem?_eq_some_iff.1 hg).2] at hin
    have hok : okG c.r = true := by unfold insB at hin; simp only [Bool.and_eq_true] at hin; exact hin.1.1
    obtain ⟨D, hD⟩ : ∃ D, D = outD x c.r := ⟨_, rfl⟩
    have hfr2 := hfr.out; have hfx2 := hfx.out
    simp only [hoi, ← hD] at hfr2 hfx2
    clear hfr hfx
    obtain ⟨kv, hkv⟩ : ∃ l, l = keysR x c.r := ⟨_, rfl⟩
    obtain ⟨dn, hdn⟩ : ∃ l, l = doneR x c.r := ⟨_, rfl⟩
    have hDe : D = ⟨(bPar kv dn).toArray⟩ := by rw [hD, hkv, hdn]; rfl
    have hpar := fun (W : World) (hb : Below W1.heap.size W1 W) => (show Calls Tryz.prog 21 #[.pointer (some ⟨p.S, 0, none⟩), .agg #[.string c.r.1, .string c.r.2]] W fun e w' => ∃ A1 c1 A2 c2 A3 c3, e = .returned (.agg #[.slice A1 kv.length c1, .slice A2 kv.length c2, .slice A3 dn.length c3]) ∧ ParW W kv dn A1 c1 A2 c2 A3 c3 w' from by rw [hkv, hdn]; exact shParcel_any (h1.out.below hb) c.r.1 c.r.2 hok)
    have hkl : kv.length ≤ 64 := by rw [hkv]; exact Nat.le_trans (List.length_filter_le _ _) h.out.st.len
    have hdl : dn.length ≤ 2048 := by rw [hdn]; exact Nat.le_trans (List.length_filter_le _ _) (by have := h.out.mem.le; have := h.out.mem.sz; omega)
    have hkf : ∀ y ∈ kv, fitKv y := fun y hy => by rw [hkv] at hy; have q := h.out.st.ok y (List.mem_filter.1 hy).1; exact fitKv_of q.1 q.2
    have hdf : ∀ y ∈ dn, fitEn y := fun y hy => by rw [hdn] at hy; exact fitEn_of (h.out.okm y (List.mem_filter.1 hy).1)
    have i0 : (0 : Int) ≤ i := by omega
    have i1 : (i : Int) < (x.own.length : Int) := by omega
    have i2 : ¬ (i : Int) < 0 := by omega
    replace hg := Lh hg; replace hin := Lh hin; replace hok := Lh hok; replace hD := Lh hD; replace hkv := Lh hkv; replace hdn := Lh hdn; replace hDe := Lh hDe; replace hpar := Lh hpar; replace hkf := Lh hkf; replace hdf := Lh hdf; replace hfr2 := Lh hfr2; replace hfx2 := Lh hfx2; replace hoi := Lh hoi
    go_wp2_with (fail)
    refine hq.mono ?_
    rintro e V2 ⟨rfl, b2⟩
    have k2 := Lh (kY.out.trans (b2.mono kY.out.size))
    have e5 := Lh ((b2.block _ (blkX e1.out)).trans e1.out)
    have q2 := (b2.block _ (blkX ((kY.out.block _ (blkX b0.out)).trans b0.out))).trans ((kY.out.block _ (blkX b0.out)).trans b0.out)
    have u9 : V2.cell? ⟨v.heap.size, 9, none⟩ = some (.string c.r.1) := blkC q2 9
    have u10 : V2.cell? ⟨v.heap.size, 10, none⟩ = some (.string c.r.2) := blkC q2 10
    have ux := blkX q2
    replace q2 := Lh q2
    clear b2 hq c2 x2
    go_wp2_with (fail)
    refine (hpar.out _ k2.out).mono ?_
    rintro e V3 ⟨A1, c1, A2, c2, A3, c3, rfl, hp3⟩
    clear u9 u10 ux
    have k3 := Lh (k2.out.trans (hp3.bel.mono k2.out.size))
    have e6 := Lh ((hp3.bel.block _ (blkX e5.out)).trans e5.out)
    have q3 := Lh ((hp3.bel.block _ (blkX q2.out)).trans q2.out)
    obtain ⟨V4, hV4⟩ : ∃ W, W = V3.alloc (.cells #[.slice A1 kv.length c1, .slice A2 kv.length c2, .slice A3 dn.length c3] 81) := ⟨_, rfl⟩
    have b4 : Below V3.heap.size V3 V4 := by rw [hV4]; exact (Below.refl _ _).alloc (Nat.le_refl _) _
    have k4 := Lh (k3.out.trans (b4.mono k3.out.size))
    have e7 := Lh ((b4.block _ (blkX e6.out)).trans e6.out)
    have q4 := Lh ((b4.block _ (blkX q3.out)).trans q3.out)
    obtain ⟨pb, hpb⟩ : ∃ n, n = V3.heap.size := ⟨_, rfl⟩
    have p4 : V4.heap[pb]? = some (.cells #[.slice A1 kv.length c1, .slice A2 kv.length c2, .slice A3 dn.length c3] 81 (0, 0)) := by rw [hV4, hpb]; exact hpNew _ _
    have hK4 : KS V4 A1 kv.length (kv.map (·.1)) := SL.keep (SL.of_own (fun _ => rfl) hp3.o1 (by simp)) b4
    have hC4 : CS V4 A2 kv.length (kv.map (·.2)) := SL.keep (SL.of_own encC_len hp3.o2 (by simp)) b4
    have hM4 : MS V4 A3 dn.length dn := SL.keep (SL.of_own encM_len hp3.o3 rfl) b4
    have hge : ∀ k, rowOf A1 = some k → V2.heap.size ≤ k := fun k hk => (own_row hp3.o1 k hk).1
    have henc := encode_any A1 c1 A2 c2 A3 c3 kv.length dn.length kv dn V4 hK4 hC4 hM4 hkl hdl hkf.out hdf.out
    rw [← hDe.out] at henc
    have t0 := blkC p4 0; have t1 := blkC p4 1; have t2 := blkC p4 2; have tx := blkX p4
    simp only [List.getElem?_toArray, List.getElem?_cons_zero, List.getElem?_cons_succ] at t0 t1 t2
    replace hK4 := Lh hK4; replace p4 := Lh p4; replace hge := Lh hge
    clear hC4 hM4 b4 hp3
    replace hV4 := Lh hV4; replace hpb := Lh hpb
    go_wp2_with (fail)
    rw [← hV4.out, ← hpb.out]
    refine henc.mono ?_
    rintro e V5 ⟨rfl, b5⟩
    have k5 := Lh (k4.out.trans (b5.mono k4.out.size))
    have e8 := Lh ((b5.block _ (blkX e7.out)).trans e7.out)
    have q5 := Lh ((b5.block _ (blkX q4.out)).trans q4.out)
    have p5 := Lh ((b5.block _ (blkX p4.out)).trans p4.out)
    have hK5 := Lh (SL.keep hK4.out b5)
    clear henc t0 t1 t2 tx b5
    by_cases hbig : 60000 < D.size
    ·
     have e2 : fr = (11, 0, noText) := by rw [hfr2.out, if_pos hbig]
     have e3 : x = fx := by rw [hfx2.out, if_pos hbig]
     subst e2; subst e3
     have hb2 : (60000 : Int) < (D.size : Int) := by omega
     go_wp2_with (fail)
     refine (refused_any 11 _).mono ?_
     rintro e V3 ⟨rfl, b3⟩
     have k3 := Lh (k5.out.trans (b3.mono k5.out.size))
     have e4 := (b3.block _ (blkX e8.out)).trans e8.out
     clear b3
     have s0 := blkC e4 0
     have s1 := blkC e4 1
     have s2 := blkC e4 2
     have sf := blkF e4; have sx := blkX e4
     simp only [List.getElem?_toArray, List.getElem?_cons_zero, List.getElem?_cons_succ] at s0 s1 s2
     go_wp2_with (fail)
     refine bodyPost_ret (by simp [results, Tryz.results30, go_sem, *]; try with_reducible rfl) rfl ?_
     exact ⟨rfl, p, (ShTo.set (ShTo.set (ShTo.set (ShTo.below h.out (k1.out.trans (k3.out.mono k1.out.size))) (a := ⟨v.heap.size + 1, 0, none⟩) (by simp only; omega) (h.out.out (by simp only; omega)) _) (a := ⟨v.heap.size + 1, 1, none⟩) (by simp only; omega) (h.out.out (by simp only; omega)) _) (a := ⟨v.heap.size + 1, 2, none⟩) (by simp only; omega) (h.out.out (by simp only; omega)) _)⟩
    ·
     have e2 : fr = (0, 0, D) := by rw [hfr2.out, if_neg hbig]
     have e3 := hfx2.out
     rw [if_neg hbig] at e3
     subst e2
     replace hfx2 := Lh e3
     clear e3
     have hb2 : ((60000 : Int) < (D.size : Int)) = False := eq_false (by omega)
     go_wp2_with (fail)
     obtain ⟨bo, oo, gg, hA, hbl, hx, hc⟩ := SL.at_ (h1.out.gs) hil
     obtain rfl : g = gg := by rw [hg.out] at hx; exact Option.some.inj hx
     obtain ⟨g1, g2⟩ := g
     have hcell : ∀ W : World, Below W1.heap.size W1 W → W.cell? ⟨bo, oo + i * 2, none⟩ = some (.string g1) ∧ W.cell? ⟨bo, oo + i * 2 + 1, none⟩ = some (.string g2) := fun W hb => ⟨(hb.cell (p := ⟨bo, _, none⟩) hbl).trans (hc 0 _ rfl), (hb.cell (p := ⟨bo, _, none⟩) hbl).trans (hc 1 _ rfl)⟩
     clear hc hx
     have hgz : szG (g1, g2) := okG_sz (hsy.out i _ hg.out)
     have hgo := hsy.out i _ hg.out
     have hS11 : ∀ W : World, Below W1.heap.size W1 W → (fun W' : World => W'.heap[p.S]? = some (.cells (shV p x) 88 (0, 0)) ∧ W'.heap[v.heap.size]? = some (.cells (cdV c) 40 (0, 0)) ∧ W'.cell? ⟨bo, oo + i * 2, none⟩ = some (.string g1) ∧ W'.cell? ⟨bo, oo + i * 2 + 1, none⟩ = some (.string g2)) W := fun W hb => ⟨(hSv.out W hb).1, (hSv.out W hb).2.1, (hcell W hb).1, (hcell W hb).2⟩
     obtain ⟨Y5, hY5⟩ : ∃ W, W = V5.drew := ⟨_, rfl⟩
     have bY5 : Below V5.heap.size V5 Y5 := by rw [hY5]; exact (Below.refl _ _).drew
     have kY5 := Lh (k5.out.trans (bY5.mono k5.out.size))
     have eY5 := Lh ((bY5.block _ (blkX e8.out)).trans e8.out)
     have qY5 := Lh ((bY5.block _ (blkX q5.out)).trans q5.out)
     have pY5 := Lh ((bY5.block _ (blkX p5.out)).trans p5.out)
     have KY5 := Lh (SL.keep hK5.out bY5)
     have hpbg : v.heap.size ≤ pb := by rw [hpb.out]; exact Nat.le_trans k1.out.size k3.out.size
     have hge2 : ∀ k, rowOf A1 = some k → v.heap.size ≤ k := fun k hk => Nat.le_trans (Nat.le_trans k1.out.size k2.out.size) (hge.out k hk)
     replace hA := Lh hA; replace hcell := Lh hcell; replace hgz := Lh hgz; replace hgo := Lh hgo; replace hS11 := Lh hS11; replace hY5 := Lh hY5; replace hpbg := Lh hpbg; replace hge2 := Lh hge2
     clear bY5 e8 q5 p5 hK5 hge
     refine wp_region_held_drew (S := (fun W' : World => W'.heap[p.S]? = some (.cells (shV p x) 88 (0, 0)) ∧ W'.heap[v.heap.size]? = some (.cells (cdV c) 40 (0, 0)) ∧ W'.cell? ⟨bo, oo + i * 2, none⟩ = some (.string g1) ∧ W'.cell? ⟨bo, oo + i * 2 + 1, none⟩ = some (.string g2))) (by kernel_rfl) ?_ (fun hH => ?_)
     ·
      try rw [← hY5.out]
      exact hS11.out _ kY5.out
     refine tl 0 hH ?_
     refine tl 1 hH ?_
     refine tl 2 hH ?_
     refine tk (i := 3) (v := ?_) (hy := .inl ⟨by rfl, by intro w hSw; obtain ⟨sS, sC, s1', s2'⟩ := hSw; have t0 : w.cell? ⟨p.S, 2, none⟩ = some (.slice (some ⟨bo, oo, none⟩) x.own.length p.c) := (by rw [← hA.out]; exact blkC sS 2); go_simp; first | done | with_reducible rfl⟩) (hS := hH) (h := ?_)
     refine tl 4 hH ?_
     refine tl 5 hH ?_
     refine tk (i := 6) (v := ?_) (hy := .inl ⟨by rfl, by intro w hSw; obtain ⟨sS, sC, s1', s2'⟩ := hSw; go_simp; first | done | with_reducible rfl⟩) (hS := hH) (h := ?_)
     refine tl 7 hH ?_
     refine tk (i := 8) (v := ?_) (hy := .inl ⟨by rfl, by intro w hSw; obtain ⟨sS, sC, s1', s2'⟩ := hSw; have t0 : w.cell? ⟨v.heap.size, 9, none⟩ = some (.string c.r.1) := blkC sC 9; have t1 : w.cell? ⟨v.heap.size, 10, none⟩ = some (.string c.r.2) := blkC sC 10; go_simp; first | done | with_reducible rfl⟩) (hS := hH) (h := ?_)
     refine wpAnyH_ready (rs := [9]) (by kernel_rfl) (by simp) ?_
     refine AllReadyH.cons rfl (fun K hK => ?_) ?_
     ·
      clear hH
      try rw [← hY5.out]
      go_simp
      refine (without_any g1 g2 c.r.1 c.r.2 _ hgz.out hr).mono ?_
      rintro e V6 ⟨A6, n6, c6, rfl, hl6, ho6, bb⟩
      have k6 := Lh (kY5.out.trans (bb.mono kY5.out.size))
      have e9 := Lh ((bb.block _ (blkX eY5.out)).trans eY5.out)
      have q6 := Lh ((bb.block _ (blkX qY5.out)).trans qY5.out)
      have p6 := Lh ((bb.block _ (blkX pY5.out)).trans pY5.out)
      have hK6 := Lh (SL.keep KY5.out bb)
      replace ho6 := Lh ho6; replace hl6 := Lh hl6
      clear bb
      refine hK _ _ (hS11.out _ k6.out) (fun hH => ?_)
      clear hK K
      refine tl 10 hH ?_
      refine tl 11 hH ?_
      refine tl 12 hH ?_
      refine tl 13 hH ?_
      refine tl 14 hH ?_
      refine wpAnyH_done (by kernel_rfl) ?_ _
      clear hH kY5 eY5 qY5 pY5 KY5
      go_wp2_with (fail)
      have h6 := h1.out.below k6.out
      have hcap : x.own.length ≤ p.c := own_cap h6.own
      obtain ⟨X1, hsl1, hX1⟩ := SL.low h6.gs (m := i) (by omega) hcap
      obtain ⟨X2, d2, hsl2, hX2⟩ := SL.high h6.gs (m := i + 1) (by omega) hcap
      obtain ⟨wl, hwl⟩ : ∃ l, l = wout (g1, g2) c.r := ⟨_, rfl⟩
      have ho6' := ho6.out
      have hl6' := hl6.out
      rw [show wout (g1, g2) (c.r.1, c.r.2) = wl from hwl.symm] at ho6' hl6'
      have hW6 : GS V6 A6 n6 wl := ho6'.gs hl6'
      obtain ⟨FL, hFL⟩ : ∃ l, l = cutL x c.r i := ⟨_, rfl⟩
      have hFe : [x.own.take i, wl, x.own.drop (i + 1)].flatten = FL := by rw [hFL, hwl]; unfold cutL; rw [hg.out]; simp
      have hwn : wl.length ≤ 2 := by rw [hwl]; exact wout_len _ _
      have hFn : FL.length ≤ 20000 := by rw [← hFe]; simp only [List.flatten_cons, List.flatten_nil, List.length_append, List.length_take, List.length_drop, List.length_nil]; omega
      have hFo : ∀ y ∈ FL, okG y = true := by
       rw [hFL]; unfold cutL; rw [hg.out]
       intro y hy
       simp only [Option.getD_some, List.mem_append] at hy
       rcases hy with q | q | q
       ·
        exact h.out.ok y (List.mem_of_mem_take q)
       ·
        exact wout_ok hgo.out hok.out y q
       ·
        exact h.out.ok y (List.mem_of_mem_drop q)
      have hl1 : (x.own.take i).length = i := by rw [List.length_take]; omega
      have hl2 : (x.own.drop (i + 1)).length = x.own.length - (i + 1) := List.length_drop
      obtain ⟨Y6, hY6⟩ : ∃ W, W = V6.drew := ⟨_, rfl⟩
      have bY6 : Below V6.heap.size V6 Y6 := by rw [hY6]; exact (Below.refl _ _).drew
      have s2 : Y6.cell? ⟨p.S, 2, none⟩ = some (.slice p.A x.own.length p.c) := blkC (h6.below bY6).blk 2
      have sz : Y6.heap.size = V6.heap.size := by rw [hY6]; rfl
      have i3 : (i : Int) ≤ (p.c : Int) := by omega
      have i4 : (0 : Int) ≤ (i : Int) + 1 := by omega
      have i5 : (i : Int) + 1 ≤ (x.own.length : Int) := by omega
      have i6 : (x.own.length : Int) ≤ (p.c : Int) := by omega
      have hw1 : IntKind.i64.wrap ((i : Int) + 1) = ((i + 1 : Nat) : Int) := by simp [IntKind.wrap, IntKind.signed, IntKind.bits]; omega
      have i7 : i ≤ p.c := by omega
      have i8 : i + 1 ≤ x.own.length := by omega
      replace h6 := Lh h6; replace hX1 := Lh hX1; replace hX2 := Lh hX2; replace hwl := Lh hwl; replace hW6 := Lh hW6; replace hFL := Lh hFL; replace hFe := Lh hFe; replace hFn := Lh hFn; replace hFo := Lh hFo; replace hl1 := Lh hl1; replace hl2 := Lh hl2; replace hY6 := Lh hY6; replace bY6 := Lh bY6; replace s2 := Lh s2; replace sz := Lh sz
      clear ho6' hl6'
      apply joinArms3 (F := fun V (C : Option Addr) (cc : Nat) => ShTo base p { p with A := C, c := cc } { x with own := FL } V6 V)
      ·
       intro hfin
       refine wp_region_any (by kernel_rfl) ?_
       try (change wpAny _ _ _ _ _ _ _ (World.drew _))
       refine ta 0 ?_
       refine ta 1 ?_
       refine ta 2 ?_
       refine ta 3 ?_
       refine ta 5 ?_
       refine ta 7 ?_
       refine ta 8 ?_
       refine ta 9 ?_
       refine ta 10 ?_
       refine ta 12 ?_
       refine ta 13 ?_
       refine wpAny_ready (rs := [4, 11]) (by kernel_rfl) (by simp) ?_
       refine AllReady.cons rfl (fun K hK => ?_) ?_
       ·
        have hK' := hK; clear hK; have hK := hK'; clear hK'
        try rw [← hY6.out]
        have s2' := s2.out
        go_simp
        refine hK _ _ ?_
        clear hK K s2'
        refine ta 6 ?_
        refine wpAny_ready (rs := [11]) (by kernel_rfl) (by simp) ?_
        refine AllReady.cons rfl (fun K hK => ?_) ?_
        ·
         have hK' := hK; clear hK; have hK := hK'; clear hK'
         try rw [← hY6.out]
         have s2' := s2.out
         go_simp
         refine hK _ _ ?_
         clear hK K s2'
         refine ta 14 ?_
         refine wpAny_ready (rs := [15]) (by kernel_rfl) (by simp) ?_
         refine AllReady.cons rfl (fun K hK => ?_) ?_
         ·
          have hK' := hK; clear hK; have hK := hK'; clear hK'
          try rw [← hY6.out]
          go_simp
          obtain ⟨Z, hZ⟩ : ∃ Z, Z = Y6.alloc (.cells #[.slice X1 i p.c, .slice A6 n6 c6, .slice X2 (x.own.length - (i + 1)) d2] 42) := ⟨_, rfl⟩
          have bZ : Below Y6.heap.size Y6 Z := by rw [hZ]; exact (Below.refl _ _).alloc (Nat.le_refl _) _
          have lZ : Z.heap[Y6.heap.size]? = some (.cells #[.slice X1 i p.c, .slice A6 n6 c6, .slice X2 (x.own.length - (i + 1)) d2] 42 (0, 0)) := by rw [hZ]; exact hpNew _ _
          have b6Z := bY6.out.trans (bZ.mono bY6.out.size)
          replace lZ := Lh lZ; replace b6Z := Lh b6Z
          rw [← hZ]
          replace hZ := Lh hZ
          clear bZ
          refine hK _ _ ?_
          clear hK K
          refine wpAny_ready (rs := [16]) (by kernel_rfl) (by simp) ?_
          refine AllReady.cons rfl (fun K hK => ?_) ?_
          ·
           have hK' := hK; clear hK; have hK := hK'; clear hK'
           have hcc := concatG (G := Y6.heap.size) (cp := 3) (k := 3) (ls := [x.own.take i, wl, x.own.drop (i + 1)]) (w := Z) rfl (fun j l hj => ⟨blkX lZ.out, (by
            have h0 : j = 0 ∨ j = 1 ∨ j = 2 := by have := (List.getElem?_eq_some_iff.1 hj).1; simp at this; omega
            rcases h0 with rfl | rfl | rfl
            ·
             simp only [List.getElem?_cons_zero, Option.some.injEq] at hj; subst hj
             exact ⟨X1, p.c, by rw [hl1.out]; exact blkC lZ.out 0, by rw [hl1.out]; exact SL.keep hX1.out b6Z.out⟩
            ·
             simp only [List.getElem?_cons_succ, List.getElem?_cons_zero, Option.some.injEq] at hj; subst hj
             exact ⟨A6, c6, by rw [hW6.out.1]; exact blkC lZ.out 1, by rw [hW6.out.1]; exact SL.keep hW6.out b6Z.out⟩
            ·
             simp only [List.getElem?_cons_succ, List.getElem?_cons_zero, Option.some.injEq] at hj; subst hj
             exact ⟨X2, d2, by rw [hl2.out]; exact blkC lZ.out 2, by rw [hl2.out]; exact SL.keep hX2.out b6Z.out⟩)⟩) (by rw [hFe.out]; have := hFn.out; omega) (by omega)
           rw [hFe.out] at hcc
           go_simp
           refine hcc.mono ?_
           rintro e V7 ⟨C, cc, rfl, ho7, b7⟩
           have b67 := b6Z.out.trans (b7.mono b6Z.out.size)
           have h7 := h6.out.below b67
           have o7 : ∀ k, rowOf C = some k → V6.heap.size ≤ k := fun k hk => Nat.le_trans b6Z.out.size (own_row ho7 k hk).1
           have hto : ShTo base p { p with A := C, c := cc } { x with own := FL } V6 (V7.setCell ⟨p.S, 2, none⟩ (.slice C FL.length cc)) := by
            refine ShW.setS (ap := x.app) h6.out ?_ (GOwn.mono (ownsRow_far ho7 (by simp only; exact Nat.lt_of_lt_of_le h6.out.lt b6Z.out.size)) (Nat.le_trans (Nat.le_trans hbv (Nat.le_trans k1.out.size k6.out.size)) b6Z.out.size)) ((Chg.of_below b67 (fun k => k = p.S)).setCell (p := ⟨p.S, 2, none⟩) (fun _ => rfl) _) (fun k hk => .inr (o7 k hk)) hFo.out
            rw [show shV { p with A := C, c := cc } { x with own := FL, app := x.app } = (shV p x).setIfInBounds 2 (.slice C FL.length cc) from by unfold shV; simp]
            exact hpSet (i := 2) (v := .slice C FL.length cc) h7.blk
           have g0 : V7.cell? ⟨p.S, 2, none⟩ = some (.slice p.A x.own.length p.c) := blkC h7.blk 2
           have g2 := blkF h7.blk 2; have gx := blkX h7.blk
           replace hto := Lh hto
           clear ho7 b7 b67 h7 o7
           refine hK _ _ ?_
           clear hK K
           refine ta 17 ?_
           refine ta 18 ?_
           refine wpAny_ready (rs := [19]) (by kernel_rfl) (by simp) ?_
           refine AllReady.cons rfl (fun K hK => ?_) ?_
           ·
            have hK' := hK; clear hK; have hK := hK'; clear hK'
            go_simp
            generalize hV8 : V7.setCell ⟨p.S, 2, none⟩ (.slice C FL.length cc) = V8' at hto ⊢
            refine hK _ _ ?_
            clear hK K
            refine wpAny_done (by kernel_rfl) ?_ _
            exact hfin _ C cc hto.out
           exact AllReady.nil
          exact AllReady.nil
         exact AllReady.nil
        exact AllReady.nil
       refine AllReady.cons rfl (fun K hK => ?_) ?_
       ·
        have hK' := hK; clear hK; have hK := hK'; clear hK'
        try rw [← hY6.out]
        have s2' := s2.out
        go_simp
        refine hK _ _ ?_
        clear hK K s2'
        refine ta 14 ?_
        refine wpAny_ready (rs := [4]) (by kernel_rfl) (by simp) ?_
        refine AllReady.cons rfl (fun K hK => ?_) ?_
        ·
         have hK' := hK; clear hK; have hK := hK'; clear hK'
         try rw [← hY6.out]
         have s2' := s2.out
         go_simp
         refine hK _ _ ?_
         clear hK K s2'
         refine ta 6 ?_
         refine wpAny_ready (rs := [15]) (by kernel_rfl) (by simp) ?_
         refine AllReady.cons rfl (fun K hK => ?_) ?_
         ·
          have hK' := hK; clear hK; have hK := hK'; clear hK'
          try rw [← hY6.out]
          go_simp
          obtain ⟨Z, hZ⟩ : ∃ Z, Z = Y6.alloc (.cells #[.slice X1 i p.c, .slice A6 n6 c6, .slice X2 (x.own.length - (i + 1)) d2] 42) := ⟨_, rfl⟩
          have bZ : Below Y6.heap.size Y6 Z := by rw [hZ]; exact (Below.refl _ _).alloc (Nat.le_refl _) _
          have lZ : Z.heap[Y6.heap.size]? = some (.cells #[.slice X1 i p.c, .slice A6 n6 c6, .slice X2 (x.own.length - (i + 1)) d2] 42 (0, 0)) := by rw [hZ]; exact hpNew _ _
          have b6Z := bY6.out.trans (bZ.mono bY6.out.size)
          replace lZ := Lh lZ; replace b6Z := Lh b6Z
          rw [← hZ]
          replace hZ := Lh hZ
          clear bZ
          refine hK _ _ ?_
          clear hK K
          refine wpAny_ready (rs := [16]) (by kernel_rfl) (by simp) ?_
          refine AllReady.cons rfl (fun K hK => ?_) ?_
          ·
           have hK' := hK; clear hK; have hK := hK'; clear hK'
           have hcc := concatG (G := Y6.heap.size) (cp := 3) (k := 3) (ls := [x.own.take i, wl, x.own.drop (i + 1)]) (w := Z) rfl (fun j l hj => ⟨blkX lZ.out, (by
            have h0 : j = 0 ∨ j = 1 ∨ j = 2 := by have := (List.getElem?_eq_some_iff.1 hj).1; simp at this; omega
            rcases h0 with rfl | rfl | rfl
            ·
             simp only [List.getElem?_cons_zero, Option.some.injEq] at hj; subst hj
             exact ⟨X1, p.c, by rw [hl1.out]; exact blkC lZ.out 0, by rw [hl1.out]; exact SL.keep hX1.out b6Z.out⟩
            ·
             simp only [List.getElem?_cons_succ, List.getElem?_cons_zero, Option.some.injEq] at hj; subst hj
             exact ⟨A6, c6, by rw [hW6.out.1]; exact blkC lZ.out 1, by rw [hW6.out.1]; exact SL.keep hW6.out b6Z.out⟩
            ·
             simp only [List.getElem?_cons_succ, List.getElem?_cons_zero, Option.some.injEq] at hj; subst hj
             exact ⟨X2, d2, by rw [hl2.out]; exact blkC lZ.out 2, by rw [hl2.out]; exact SL.keep hX2.out b6Z.out⟩)⟩) (by rw [hFe.out]; have := hFn.out; omega) (by omega)
           rw [hFe.out] at hcc
           go_simp
           refine hcc.mono ?_
           rintro e V7 ⟨C, cc, rfl, ho7, b7⟩
           have b67 := b6Z.out.trans (b7.mono b6Z.out.size)
           have h7 := h6.out.below b67
           have o7 : ∀ k, rowOf C = some k → V6.heap.size ≤ k := fun k hk => Nat.le_trans b6Z.out.size (own_row ho7 k hk).1
           have hto : ShTo base p { p with A := C, c := cc } { x with own := FL } V6 (V7.setCell ⟨p.S, 2, none⟩ (.slice C FL.length cc)) := by
            refine ShW.setS (ap := x.app) h6.out ?_ (GOwn.mono (ownsRow_far ho7 (by simp only; exact Nat.lt_of_lt_of_le h6.out.lt b6Z.out.size)) (Nat.le_trans (Nat.le_trans hbv (Nat.le_trans k1.out.size k6.out.size)) b6Z.out.size)) ((Chg.of_below b67 (fun k => k = p.S)).setCell (p := ⟨p.S, 2, none⟩) (fun _ => rfl) _) (fun k hk => .inr (o7 k hk)) hFo.out
            rw [show shV { p with A := C, c := cc } { x with own := FL, app := x.app } = (shV p x).setIfInBounds 2 (.slice C FL.length cc) from by unfold shV; simp]
            exact hpSet (i := 2) (v := .slice C FL.length cc) h7.blk
           have g0 : V7.cell? ⟨p.S, 2, none⟩ = some (.slice p.A x.own.length p.c) := blkC h7.blk 2
           have g2 := blkF h7.blk 2; have gx := blkX h7.blk
           replace hto := Lh hto
           clear ho7 b7 b67 h7 o7
           refine hK _ _ ?_
           clear hK K
           refine ta 17 ?_
           refine ta 18 ?_
           refine wpAny_ready (rs := [19]) (by kernel_rfl) (by simp) ?_
           refine AllReady.cons rfl (fun K hK => ?_) ?_
           ·
            have hK' := hK; clear hK; have hK := hK'; clear hK'
            go_simp
            generalize hV8 : V7.setCell ⟨p.S, 2, none⟩ (.slice C FL.length cc) = V8' at hto ⊢
            refine hK _ _ ?_
            clear hK K
            refine wpAny_done (by kernel_rfl) ?_ _
            exact hfin _ C cc hto.out
           exact AllReady.nil
          exact AllReady.nil
         exact AllReady.nil
        exact AllReady.nil
       exact AllReady.nil
      ·
       rintro V8 C cc T8
       have hnf : ∀ k, v.heap.size ≤ k → ¬ p.foot k := fun k hk => h.out.out hk
       have hsz6 : v.heap.size + 1 < V6.heap.size := blkX e9.out
       have hrow6 : ∀ k, rowOf A1 = some k → k < V6.heap.size → v.heap.size ≤ k := fun k hk _ => hge2.out k hk
       have sP : V8.cell? ⟨pb, 0, none⟩ = some (.slice A1 kv.length c1) := blkC (T8.blk p6.out (hnf _ hpbg.out)) 0
       have sx := blkX (T8.blk p6.out (hnf _ hpbg.out))
       replace T8 := Lh T8; replace hnf := Lh hnf; replace hrow6 := Lh hrow6
       go_wp2_with (fail)
       clear sP sx
       go_loopw [81] (fun ii wr => ∃ j : Nat, j ≤ kv.length ∧ ii = .int .i64 j ∧ ShTo base p { p with A := C, c := cc } { x with own := FL, cnt := rmL x.cnt ((kv.map (·.1)).take j) } V6 wr) (fun ii _ => kv.length - (intOf ii).toNat)
       case atStart => exact ⟨0, by omega, rfl, T8.out⟩
       case round =>
        clear T8
        revert wr
        intro X hrel
        obtain ⟨j, hj, rfl, hT⟩ := hrel
        by_cases hlt3 : j < kv.length
        ·
         have hKX : KS X A1 kv.length (kv.map (·.1)) := hK6.out.same fun q hq hql => ⟨Nat.lt_of_lt_of_le hql hT.chg.size, hT.chg.block q hql (hnf.out q (hge2.out q hq))⟩
         obtain ⟨b3, o3, k, rfl, hbl3, hxk, hc3⟩ := SL.at_ hKX hlt3
         have s9 := hc3 0 _ rfl
         rw [Nat.mul_one, Nat.add_zero] at s9
         clear hc3 hKX
         have hks : k.size ≤ 140737488355328 := by
          obtain ⟨y, hy, rfl⟩ : ∃ y, kv[j]? = some y ∧ y.1 = k := by rw [List.getElem?_map] at hxk; simpa [Option.map_eq_some_iff] using hxk
          have := (hkf.out y (List.mem_of_getElem? hy)).1; omega
         have hrm := stRemove_any hT.sh.st k hks
         have s3 : X.cell? ⟨p.S, 3, none⟩ = some (.pointer (some ⟨p.St, 0, none⟩)) := blkC hT.sh.blk 3
         have s3x := blkX hT.sh.blk
         have j0 : (0 : Int) ≤ j := by omega
         have j1 : (j : Int) < (kv.length : Int) := by omega
         have hnx := rmL_next (l := x.cnt) hxk
         replace hT := Lh hT; replace hxk := Lh hxk; replace hnx := Lh hnx
         go_wp2_with (fail)
         refine hrm.mono ?_
         rintro e X2' ⟨rfl, hst⟩
         have hT2 := Lh (hT.out.trans (hT.out.sh.setCnt hst))
         clear hst hrm s9 s3 s3x
         go_wp2_with (fail)
         exact ⟨⟨j + 1, by omega, by go_num, by rw [hnx.out]; exact hT2.out⟩, by simp [intOf]; omega⟩
        ·
         obtain rfl : j = kv.length := by omega
         rw [List.take_of_length_le (by simp)] at hT
         obtain ⟨Y7, hY7⟩ : ∃ W, W = X.drew := ⟨_, rfl⟩
         have bY7 : Below X.heap.size X Y7 := by rw [hY7]; exact (Below.refl _ _).drew
         have hT7 := hT.thenB bY7
         have hcm : ∀ (W : World) p' x', ShTo base p p' x' V6 W → W.heap[v.heap.size]? = some (.cells (cdV c) 40 (0, 0)) := fun W p' x' hq => hq.blk q6.out (hnf.out _ (Nat.le_refl _))
         have htk := take_any hT7.sh.mem hT7.sh.okm c.r.1 c.r.2 hr.1 hr.2
         replace hT := Lh hT; replace hT7 := Lh hT7; replace hY7 := Lh hY7; replace hcm := Lh hcm
         clear bY7
         go_wp2_with (fail)
         refine wp_region_held_drew (S := (fun W' : World => W'.heap[p.S]? = some (.cells (shV { p with A := C, c := cc } { x with own := FL, cnt := rmL x.cnt (kv.map (·.1)) }) 88 (0, 0)) ∧ W'.heap[v.heap.size]? = some (.cells (cdV c) 40 (0, 0)))) (by kernel_rfl) ?_ (fun hH => ?_)
         ·
          try rw [← hY7.out]
          exact ⟨hT7.out.sh.blk, hcm.out _ _ _ hT7.out⟩
         refine tl 0 hH ?_
         refine tl 1 hH ?_
         refine tl 2 hH ?_
         refine tk (i := 3) (v := ?_) (hy := .inl ⟨by rfl, by intro w hSw; obtain ⟨sS, sC⟩ := hSw; have t0 : w.cell? ⟨p.S, 4, none⟩ = some (.pointer (some ⟨p.D, 0, none⟩)) := blkC sS 4; go_simp; first | done | with_reducible rfl⟩) (hS := hH) (h := ?_)
         refine tl 4 hH ?_
         refine tk (i := 5) (v := ?_) (hy := .inl ⟨by rfl, by intro w hSw; obtain ⟨sS, sC⟩ := hSw; have t0 : w.cell? ⟨v.heap.size, 9, none⟩ = some (.string c.r.1) := blkC sC 9; have t1 : w.cell? ⟨v.heap.size, 10, none⟩ = some (.string c.r.2) := blkC sC 10; go_simp; first | done | with_reducible rfl⟩) (hS := hH) (h := ?_)
         refine wpAnyH_ready (rs := [6]) (by kernel_rfl) (by simp) ?_
         refine AllReadyH.cons rfl (fun K hK => ?_) ?_
         ·
          clear hH
          try rw [← hY7.out]
          go_simp
          refine htk.mono ?_
          rintro e V9 ⟨B, mm, dd, rfl, -, -, -, ht9, hm9⟩
          have hT9 := Lh (hT7.out.trans (hT7.out.sh.setMem ht9 hm9 (ord_takeL hT7.out.sh.ord) (ok_takeL hT7.out.sh.okm)))
          clear ht9 hm9 htk
          refine hK _ _ ⟨hT9.out.sh.blk, hcm.out _ _ _ hT9.out⟩ (fun hH => ?_)
          clear hK K
          refine wpAnyH_done (by kernel_rfl) ?_ _
          clear hH
          obtain ⟨Y8, hY8⟩ : ∃ W, W = V9.drew := ⟨_, rfl⟩
          have bY8 : Below V9.heap.size V9 Y8 := by rw [hY8]; exact (Below.refl _ _).drew
          have hT10 := hT9.out.thenB bY8
          obtain ⟨V10, hup, hm10, ht10⟩ := MapI.store (lt := ltZ) hT10.sh.giv undI2 undGv (by show x.giv.length < maxLen; unfold maxLen; omega) c.mv hwf D
          have hT11 := hT10.trans (hT10.sh.setGiv hm10 (ord_putA ltZ_ok hT10.sh.ogiv) (turned_chg ht10))
          replace hT10 := Lh hT10; replace hT11 := Lh hT11; replace hY8 := Lh hY8
          clear bY8 hm10 ht10
          go_wp2_with (fail)
          refine wp_region_held_drew (S := (fun W' : World => W'.heap[p.S]? = some (.cells (shV { p with A := C, c := cc } { x with own := FL, cnt := rmL x.cnt (kv.map (·.1)) }) 88 (0, 0)) ∧ W'.heap[v.heap.size]? = some (.cells (cdV c) 40 (0, 0)))) (by kernel_rfl) ?_ (fun hH => ?_)
          ·
           try rw [← hY8.out]
           exact ⟨hT10.out.sh.blk, hcm.out _ _ _ hT10.out⟩
          refine tl 0 hH ?_
          refine tl 1 hH ?_
          refine tl 2 hH ?_
          refine tk (i := 3) (v := ?_) (hy := .inl ⟨by rfl, by intro w hSw; obtain ⟨sS, sC⟩ := hSw; have t0 : w.cell? ⟨p.S, 5, none⟩ = some (.map (some p.G)) := blkC sS 5; go_simp; first | done | with_reducible rfl⟩) (hS := hH) (h := ?_)
          refine tl 4 hH ?_
          refine tk (i := 5) (v := ?_) (hy := .inl ⟨by rfl, by intro w hSw; obtain ⟨sS, sC⟩ := hSw; have t0 : w.cell? ⟨v.heap.size, 8, none⟩ = some (.int .i64 c.mv) := blkC sC 8; go_simp; first | done | with_reducible rfl⟩) (hS := hH) (h := ?_)
          refine tl 6 hH ?_
          refine wpAnyH_ready (rs := [7]) (by kernel_rfl) (by simp) ?_
          refine AllReadyH.cons rfl (fun K hK => ?_) ?_
          ·
           clear hH
           try rw [← hY8.out]
           go_simp
           refine hK _ _ ⟨hT11.out.sh.blk, hcm.out _ _ _ hT11.out⟩ (fun hH => ?_)
           clear hK K
           refine wpAnyH_done (by kernel_rfl) ?_ _
           clear hH hup
           have e10 := hT11.out.blk e9.out (hnf.out _ (by omega))
           have r0 := blkC e10 0
           have r1 := blkC e10 1
           have r2 := blkC e10 2
           have rf := blkF e10; have rx := blkX e10
           simp only [List.getElem?_toArray, List.getElem?_cons_zero, List.getElem?_cons_succ] at r0 r1 r2
           clear e10
           go_wp2_with (fail)
           refine bodyPost_ret (by simp [results, Tryz.results30, go_sem, *]; try with_reducible rfl) rfl ?_
           have e3 := hfx2.out
           rw [← hkv.out, ← hFL.out] at e3
           subst e3
           exact ⟨rfl, _, (ShTo.set (ShTo.set (ShTo.set (hT11.out.pre (k1.out.trans (k6.out.mono k1.out.size))) (a := ⟨v.heap.size + 1, 0, none⟩) (by simp only; omega) (hT11.out.nfoot h.out (by simp only; omega) (by simp only; exact hsz6)) _) (a := ⟨v.heap.size + 1, 1, none⟩) (by simp only; omega) (hT11.out.nfoot h.out (by simp only; omega) (by simp only; exact hsz6)) _) (a := ⟨v.heap.size + 1, 2, none⟩) (by simp only; omega) (hT11.out.nfoot h.out (by simp only; omega) (by simp only; exact hsz6)) _)⟩
          exact AllReadyH.nil
         exact AllReadyH.nil
     exact AllReadyH.nil
end Go.Proofs.YtgnjnpddehdmcaaGreatDoor
