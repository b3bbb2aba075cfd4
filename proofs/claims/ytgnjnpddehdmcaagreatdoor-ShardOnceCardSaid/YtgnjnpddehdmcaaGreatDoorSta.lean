/- State. -/
import Derived.Test.YtgnjnpddehdmcaaGreatDoorWkP
import Derived.Test.YtgnjnpddehdmcaaGreatDoorRowK
import Derived.Test.YtgnjnpddehdmcaaGreatDoorTkI
namespace Go.Proofs.YtgnjnpddehdmcaaGreatDoor
open Go.RowKit Go.Shelf
set_option linter.unusedSimpArgs false
set_option linter.unusedVariables false
set_option linter.unusedSectionVars false
set_option maxRecDepth 10000
theorem joinArms7 {α β γ δ ε ζ η : Type} {F G : α → β → γ → δ → ε → ζ → η → Prop} {X : Prop} (main : (∀ V a b c d e f, F V a b c d e f → G V a b c d e f) → X) (pf : ∀ V a b c d e f, F V a b c d e f → G V a b c d e f) : X := main pf
theorem sta_store {W : World} {sb : Nat} {z0 z1 z2 z3 z4 z5 z6 z7 : Value} {T : TypeId} (h : W.heap[sb]? = some (.cells #[z0, z1, z2, z3, z4, z5, z6, z7] T (0, 0))) (a0 a1 a2 a3 a4 a5 a6 a7 : Value) : ((((((((W.setCell ⟨sb, 0, none⟩ a0).setCell ⟨sb, 1, none⟩ a1).setCell ⟨sb, 2, none⟩ a2).setCell ⟨sb, 3, none⟩ a3).setCell ⟨sb, 4, none⟩ a4).setCell ⟨sb, 5, none⟩ a5).setCell ⟨sb, 6, none⟩ a6).setCell ⟨sb, 7, none⟩ a7).heap[sb]? = some (.cells #[a0, a1, a2, a3, a4, a5, a6, a7] T (0, 0)) := by
 have q := hpSet (i := 7) (v := a7) (hpSet (i := 6) (v := a6) (hpSet (i := 5) (v := a5) (hpSet (i := 4) (v := a4) (hpSet (i := 3) (v := a3) (hpSet (i := 2) (v := a2) (hpSet (i := 1) (v := a1) (hpSet (i := 0) (v := a0) h)))))))
 rw [q]
 simp only [List.setIfInBounds_toArray, List.set_cons_zero, List.set_cons_succ]
theorem sta_far {W : World} {sb k : Nat} (hk : k ≠ sb) (a0 a1 a2 a3 a4 a5 a6 a7 : Value) : ((((((((W.setCell ⟨sb, 0, none⟩ a0).setCell ⟨sb, 1, none⟩ a1).setCell ⟨sb, 2, none⟩ a2).setCell ⟨sb, 3, none⟩ a3).setCell ⟨sb, 4, none⟩ a4).setCell ⟨sb, 5, none⟩ a5).setCell ⟨sb, 6, none⟩ a6).setCell ⟨sb, 7, none⟩ a7).heap[k]? = W.heap[k]? := by
 iterate 7 refine (hpFar (by simp only; exact hk)).trans ?_
 exact hpFar (by simp only; exact hk)
theorem sta_bel {v W : World} {sb : Nat} (hb : Below v.heap.size v W) (hs : v.heap.size ≤ sb) (a0 a1 a2 a3 a4 a5 a6 a7 : Value) : Below v.heap.size v ((((((((W.setCell ⟨sb, 0, none⟩ a0).setCell ⟨sb, 1, none⟩ a1).setCell ⟨sb, 2, none⟩ a2).setCell ⟨sb, 3, none⟩ a3).setCell ⟨sb, 4, none⟩ a4).setCell ⟨sb, 5, none⟩ a5).setCell ⟨sb, 6, none⟩ a6).setCell ⟨sb, 7, none⟩ a7) :=
 (((((((hb.setCell (p := ⟨sb, 0, none⟩) hs _).setCell (p := ⟨sb, 1, none⟩) hs _).setCell (p := ⟨sb, 2, none⟩) hs _).setCell (p := ⟨sb, 3, none⟩) hs _).setCell (p := ⟨sb, 4, none⟩) hs _).setCell (p := ⟨sb, 5, none⟩) hs _).setCell (p := ⟨sb, 6, none⟩) hs _).setCell (p := ⟨sb, 7, none⟩) hs _
theorem okG_all : okG (noText, noText) = true := by decide +kernel
theorem hasG_all {k : ByteArray} (h : nameB k = true) : hasG (noText, noText) k = true := by
 unfold hasG
 rw [okG_all, h]
 unfold inG
 simp only [decide_true, Bool.true_or, Bool.and_true, Bool.true_and, less_no, Bool.not_false]
theorem keys_all {base : Nat} {p : Pl} {x : Sh} {w : World} (h : ShW base p x w) : keysR x (noText, noText) = x.cnt := List.filter_eq_self.2 fun y hy => hasG_all (h.st.ok y hy).1
theorem done_all {base : Nat} {p : Pl} {x : Sh} {w : World} (h : ShW base p x w) : doneR x (noText, noText) = x.mem := List.filter_eq_self.2 fun y hy => hasG_all (by have := h.okm y hy; unfold okP at this; simp only [Bool.and_eq_true] at this; exact this.1.2)
theorem StaR.putT {v W : World} {own : List Rg} {kv : Ct} {ds : List En} {gv : List (Int × ByteArray)} {AR A1 A2 A3 AG AT : Option Addr} {cR c1 c2 c3 cG cT : Nat} {l : List (Int × Unit)} (h : StaR v own kv ds gv [] AR cR A1 c1 A2 c2 A3 c3 AG cG none 0 W) (ho : W.ownsRow v.heap.size 3 1 (.slice AT l.length cT) l.length (flat encI1 (l.map (·.1)))) : StaR v own kv ds gv (l.map (·.1)) AR cR A1 c1 A2 c2 A3 c3 AG cG AT cT W :=
 ⟨h.bel, h.oR, h.o1, h.o2, h.o3, h.oG, by rw [List.length_map]; exact ho⟩
def StaE (x : Sh) (AR : Option Addr) (cR : Nat) (A1 : Option Addr) (c1 : Nat) (A2 : Option Addr) (c2 : Nat) (A3 : Option Addr) (c3 : Nat) (AG : Option Addr) (cG : Nat) (AT : Option Addr) (cT : Nat) : Value := .agg #[.int .i64 x.group, .int .i64 x.app, .slice AR x.own.length cR, .slice A1 x.cnt.length c1, .slice A2 x.cnt.length c2, .slice A3 x.mem.length c3, .slice AG x.giv.length cG, .slice AT x.tak.length cT]
attribute [local go_sem ↓] hideAppend
set_option maxHeartbeats 16000000 in
theorem shState_any {base : Nat} {p : Pl} {x : Sh} {v : World} (h : ShW base p x v) (hn : x.own.length ≤ 10000) (hgw : ∀ y ∈ x.giv, wfI y.1) (htw : ∀ y ∈ x.tak, wfI y.1) (hgl : x.giv.length ≤ 100000) (htl : x.tak.length ≤ 100000) : Calls Tryz.prog 8 #[.pointer (some ⟨p.S, 0, none⟩)] v fun e w' => ∃ AR cR A1 c1 A2 c2 A3 c3 AG cG AT cT, e = .returned (StaE x AR cR A1 c1 A2 c2 A3 c3 AG cG AT cT) ∧ StaR v x.own x.cnt x.mem x.giv (x.tak.map (·.1)) AR cR A1 c1 A2 c2 A3 c3 AG cG AT cT w' := by
 obtain ⟨W1, hW1⟩ : ∃ W1, W1 = (v.alloc (.cells #[.int .i64 0, .int .i64 0, .slice none 0 0, .slice none 0 0, .slice none 0 0, .slice none 0 0, .slice none 0 0, .slice none 0 0] 49)) := ⟨_, rfl⟩
 have k1 : Below v.heap.size v W1 := by rw [hW1]; exact (Below.refl _ v).alloc (Nat.le_refl _) _
 have b0 : W1.heap[v.heap.size]? = some (.cells #[.int .i64 0, .int .i64 0, .slice none 0 0, .slice none 0 0, .slice none 0 0, .slice none 0 0, .slice none 0 0, .slice none 0 0] 49 (0, 0)) := by rw [hW1]; repeat (first | exact hpNewAt _ (by simp) | exact hpNew _ _ | refine (hpOld _ (by simp <;> omega)).trans ?_)
 have h1 := h.below k1
 have hv := shValid_any h1
 have hpar := fun (W : World) (hb : Below v.heap.size v W) => shParcel_any (h.below hb) noText noText okG_all
 rw [keys_all h, done_all h] at hpar
 have hrg := fun (W : World) (hb : Below v.heap.size v W) => shRanges_any (h.below hb) (by omega)
 have htk := fun (W : World) (bx : Nat) (hb : Below v.heap.size v W) (hx : W.heap[bx]? = some (.cells #[.map (some p.T)] 86 (0, 0))) => takKeys_any hx (h.below hb).tak h.otak htw (by omega)
 have hgk := fun (W : World) (bx : Nat) (hb : Below v.heap.size v W) (hx : W.heap[bx]? = some (.cells #[.map (some p.G)] 85 (0, 0))) => givKeys_any hx (h.below hb).giv h.ogiv hgw (by omega)
 have htm := fun W => callsIn_wide.1 (Tryz.maps_Keys_Taken (some p.T) W)
 have hgm := fun W => callsIn_wide.1 (Tryz.maps_Keys_Given (some p.G) W)
 have hlt := h.lt
 replace h := Lh h; replace h1 := Lh h1; replace k1 := Lh k1; replace b0 := Lh b0; replace hpar := Lh hpar; replace hrg := Lh hrg; replace htk := Lh htk; replace hgk := Lh hgk; replace htm := Lh htm; replace hgm := Lh hgm
 go_enter Tryz.func8, Tryz.ntmps8
 go_wp2_with (fail)
 rw [← hW1]
 replace hW1 := Lh hW1
 refine hv.mono ?_
 rintro e W2 ⟨rfl, hW2⟩
 subst hW2
 clear hv
 go_wp2_with (fail)
 refine (hpar.out _ k1.out).mono ?_
 rintro e W3 ⟨A1, c1, A2, c2, A3, c3, rfl, hp3⟩
 have k3 := Lh (k1.out.trans (hp3.bel.mono k1.out.size))
 have b3 := Lh ((hp3.bel.block _ (blkX b0.out)).trans b0.out)
 obtain ⟨W4, hW4⟩ : ∃ W, W = W3.alloc (.cells #[.slice A1 x.cnt.length c1, .slice A2 x.cnt.length c2, .slice A3 x.mem.length c3] 81) := ⟨_, rfl⟩
 have b34 : Below W3.heap.size W3 W4 := by rw [hW4]; exact (Below.refl _ _).alloc (Nat.le_refl _) _
 obtain ⟨pb, hpb⟩ : ∃ n, n = W3.heap.size := ⟨_, rfl⟩
 have q4 : W4.heap[pb]? = some (.cells #[.slice A1 x.cnt.length c1, .slice A2 x.cnt.length c2, .slice A3 x.mem.length c3] 81 (0, 0)) := by rw [hW4, hpb]; exact hpNew _ _
 have k4 := Lh (k3.out.trans (b34.mono k3.out.size))
 have b4 := Lh ((b34.block _ (blkX b3.out)).trans b3.out)
 have hS4 : StaR v [] x.cnt x.mem [] [] none 0 A1 c1 A2 c2 A3 c3 none 0 none 0 W4 := ⟨k4.out, GOwn.nil _ _, own_by (own_row_re hp3.o1 k1.out.size) fun _ _ _ q => b34.block _ (blkX q), own_by (own_row_re hp3.o2 k1.out.size) fun _ _ _ q => b34.block _ (blkX q), own_by (own_row_re hp3.o3 k1.out.size) fun _ _ _ q => b34.block _ (blkX q), World.ownsRow_nil _ _ _ _, World.ownsRow_nil _ _ _ _⟩
 obtain ⟨Y, hY⟩ : ∃ W, W = W4.drew := ⟨_, rfl⟩
 have bY : Below W4.heap.size W4 Y := by rw [hY]; exact (Below.refl _ _).drew
 have kY := Lh (k4.out.trans (bY.mono k4.out.size))
 have bbY := Lh ((bY.block _ (blkX b4.out)).trans b4.out)
 have qY := Lh ((bY.block _ (blkX q4)).trans q4)
 have hSY := Lh (hS4.below bY)
 clear hp3 b34 q4 hS4 bY b4
 replace hW4 := Lh hW4; replace hpb := Lh hpb; replace hY := Lh hY
 go_wp2_with (fail)
 rw [← hW4.out, ← hpb.out]
 have hSv := Lh (show ∀ W, Below v.heap.size v W → W.heap[pb]? = some (.cells #[.slice A1 x.cnt.length c1, .slice A2 x.cnt.length c2, .slice A3 x.mem.length c3] 81 (0, 0)) → (fun W' : World => W'.heap[p.S]? = some (.cells (shV p x) 88 (0, 0)) ∧ W'.heap[pb]? = some (.cells #[.slice A1 x.cnt.length c1, .slice A2 x.cnt.length c2, .slice A3 x.mem.length c3] 81 (0, 0))) W from fun W hb q => ⟨(hb.block _ hlt).trans h.out.blk, q⟩)
 apply joinArms7 (F := fun V (AR : Option Addr) (cR : Nat) (AT : Option Addr) (cT : Nat) (sb : Nat) (_ : Nat) => StaR v x.own x.cnt x.mem [] (x.tak.map (·.1)) AR cR A1 c1 A2 c2 A3 c3 none 0 AT cT V ∧ V.heap[sb]? = some (.cells #[.int .i64 x.group, .int .i64 x.app, .slice AR x.own.length cR, .slice A1 x.cnt.length c1, .slice A2 x.cnt.length c2, .slice A3 x.mem.length c3, .slice none 0 0, .slice AT x.tak.length cT] 49 (0, 0)) ∧ V.heap[v.heap.size]? = some (.cells #[.int .i64 0, .int .i64 0, .slice none 0 0, .slice none 0 0, .slice none 0 0, .slice none 0 0, .slice none 0 0, .slice none 0 0] 49 (0, 0)) ∧ v.heap.size < sb)
 ·
  intro hfin
  refine wp_region_held_drew (S := (fun W' : World => W'.heap[p.S]? = some (.cells (shV p x) 88 (0, 0)) ∧ W'.heap[pb]? = some (.cells #[.slice A1 x.cnt.length c1, .slice A2 x.cnt.length c2, .slice A3 x.mem.length c3] 81 (0, 0)))) (by kernel_rfl) ?_ (fun hH => ?_)
  ·
   try rw [← hY.out]
   exact hSv.out _ kY.out qY.out
  refine tl 0 hH ?_
  refine tl 1 hH ?_
  refine tl 2 hH ?_
  refine tk (i := 3) (v := ?_) (hy := .inl ⟨by rfl, by intro w hSw; obtain ⟨sS, sC⟩ := hSw; have t0 : w.cell? ⟨p.S, 0, none⟩ = some (.int .i64 x.group) := blkC sS 0; go_simp; first | done | with_reducible rfl⟩) (hS := hH) (h := ?_)
  refine tl 4 hH ?_
  refine tl 5 hH ?_
  refine tl 6 hH ?_
  refine tk (i := 7) (v := ?_) (hy := .inl ⟨by rfl, by intro w hSw; obtain ⟨sS, sC⟩ := hSw; have t0 : w.cell? ⟨p.S, 1, none⟩ = some (.int .i64 x.app) := blkC sS 1; go_simp; first | done | with_reducible rfl⟩) (hS := hH) (h := ?_)
  refine tl 8 hH ?_
  refine tl 10 hH ?_
  refine tk (i := 11) (v := ?_) (hy := .inl ⟨by rfl, by intro w hSw; obtain ⟨sS, sC⟩ := hSw; have t0 : w.cell? ⟨pb, 0, none⟩ = some (.slice A1 x.cnt.length c1) := blkC sC 0; go_simp; first | done | with_reducible rfl⟩) (hS := hH) (h := ?_)
  refine tl 12 hH ?_
  refine tk (i := 13) (v := ?_) (hy := .inl ⟨by rfl, by intro w hSw; obtain ⟨sS, sC⟩ := hSw; have t0 : w.cell? ⟨pb, 1, none⟩ = some (.slice A2 x.cnt.length c2) := blkC sC 1; go_simp; first | done | with_reducible rfl⟩) (hS := hH) (h := ?_)
  refine tl 14 hH ?_
  refine tk (i := 15) (v := ?_) (hy := .inl ⟨by rfl, by intro w hSw; obtain ⟨sS, sC⟩ := hSw; have t0 : w.cell? ⟨pb, 2, none⟩ = some (.slice A3 x.mem.length c3) := blkC sC 2; go_simp; first | done | with_reducible rfl⟩) (hS := hH) (h := ?_)
  refine tl 16 hH ?_
  refine tl 17 hH ?_
  refine tl 18 hH ?_
  refine tk (i := 19) (v := ?_) (hy := .inl ⟨by rfl, by intro w hSw; obtain ⟨sS, sC⟩ := hSw; have t0 : w.cell? ⟨p.S, 6, none⟩ = some (.map (some p.T)) := blkC sS 6; go_simp; first | done | with_reducible rfl⟩) (hS := hH) (h := ?_)
  refine wpAnyH_ready (rs := [9, 23]) (by kernel_rfl) (by simp) ?_
  refine AllReadyH.cons rfl (fun K hK => ?_) ?_
  ·
   clear hH
   try rw [← hY.out]
   go_simp
   refine (hrg.out _ kY.out).mono ?_
   rintro e Y_9 ⟨AR, cR, rfl, hoR, bz⟩
   have kY_9 := Lh (kY.out.trans (bz.mono kY.out.size))
   have qY_9 := Lh ((bz.block _ (blkX qY.out)).trans qY.out)
   have bbY_9 := Lh ((bz.block _ (blkX bbY.out)).trans bbY.out)
   have hSY_9 := Lh ({ (hSY.out.below bz) with oR := own_row_re hoR kY.out.size })
   clear bz hoR
   refine hK _ _ (hSv.out _ kY_9.out qY_9.out) (fun hH => ?_)
   clear hK K
   refine wpAnyH_ready (rs := [20, 23]) (by kernel_rfl) (by simp) ?_
   refine AllReadyH.cons rfl (fun K hK => ?_) ?_
   ·
    clear hH
    go_simp
    refine (htm.out _).mono ?_
    rintro e Y_9_20 ⟨rfl, hZ⟩
    have bz : Below Y_9.heap.size Y_9 Y_9_20 := by rw [hZ]; exact (Below.refl _ _).alloc (Nat.le_refl _) _
    obtain ⟨bx, hbx⟩ : ∃ n, n = Y_9.heap.size := ⟨_, rfl⟩
    have hxY_9_20 := Lh (show Y_9_20.heap[bx]? = some (.cells #[.map (some p.T)] 86 (0, 0)) by rw [hZ, hbx]; exact hpNew _ _)
    have kY_9_20 := Lh (kY_9.out.trans (bz.mono kY_9.out.size))
    have qY_9_20 := Lh ((bz.block _ (blkX qY_9.out)).trans qY_9.out)
    have bbY_9_20 := Lh ((bz.block _ (blkX bbY_9.out)).trans bbY_9.out)
    have hSY_9_20 := Lh (hSY_9.out.below bz)
    clear bz
    rw [← hbx]
    replace hbx := Lh hbx; replace hZ := Lh hZ
    refine hK _ _ (hSv.out _ kY_9_20.out qY_9_20.out) (fun hH => ?_)
    clear hK K
    refine wpAnyH_ready (rs := [21, 23]) (by kernel_rfl) (by simp) ?_
    refine AllReadyH.cons rfl (fun K hK => ?_) ?_
    ·
     clear hH
     go_simp
     refine (htk.out _ bx kY_9_20.out hxY_9_20.out).mono ?_
     rintro e Y_9_20_21 ⟨AT, cT, rfl, hoT, bz⟩
     have kY_9_20_21 := Lh (kY_9_20.out.trans (bz.mono kY_9_20.out.size))
     have qY_9_20_21 := Lh ((bz.block _ (blkX qY_9_20.out)).trans qY_9_20.out)
     have bbY_9_20_21 := Lh ((bz.block _ (blkX bbY_9_20.out)).trans bbY_9_20.out)
     have hSY_9_20_21 := Lh (StaR.putT (hSY_9_20.out.below bz) (own_row_re hoT kY_9_20.out.size))
     have hxY_9_20_21 := Lh ((bz.block _ (blkX hxY_9_20.out)).trans hxY_9_20.out)
     clear bz hoT
     refine hK _ _ (hSv.out _ kY_9_20_21.out qY_9_20_21.out) (fun hH => ?_)
     clear hK K
     refine tl 22 hH ?_
     refine wpAnyH_ready (rs := [23]) (by kernel_rfl) (by simp) ?_
     refine AllReadyH.cons rfl (fun K hK => ?_) ?_
     ·
      clear hH
      go_simp
      obtain ⟨Y_9_20_21_23, hVV⟩ : ∃ Z, Z = Y_9_20_21.alloc (.cells #[.int .i64 0, .int .i64 0, .slice none 0 0, .slice none 0 0, .slice none 0 0, .slice none 0 0, .slice none 0 0, .slice none 0 0] 49) := ⟨_, rfl⟩
      have bz : Below Y_9_20_21.heap.size Y_9_20_21 Y_9_20_21_23 := by rw [hVV]; exact (Below.refl _ _).alloc (Nat.le_refl _) _
      obtain ⟨sb, hsb⟩ : ∃ n, n = Y_9_20_21.heap.size := ⟨_, rfl⟩
      have zY_9_20_21_23 := Lh (show Y_9_20_21_23.heap[sb]? = some (.cells #[.int .i64 0, .int .i64 0, .slice none 0 0, .slice none 0 0, .slice none 0 0, .slice none 0 0, .slice none 0 0, .slice none 0 0] 49 (0, 0)) from by rw [hVV, hsb]; exact hpNew _ _)
      have hsl := Lh (show v.heap.size < sb from by rw [hsb]; exact blkX bbY_9_20_21.out)
      have hpl := Lh (show pb < sb from by rw [hsb]; exact blkX qY_9_20_21.out)
      have kY_9_20_21_23 := Lh (kY_9_20_21.out.trans (bz.mono kY_9_20_21.out.size))
      have qY_9_20_21_23 := Lh ((bz.block _ (blkX qY_9_20_21.out)).trans qY_9_20_21.out)
      have bbY_9_20_21_23 := Lh ((bz.block _ (blkX bbY_9_20_21.out)).trans bbY_9_20_21.out)
      have hSY_9_20_21_23 := Lh (hSY_9_20_21.out.below bz)
      have hxY_9_20_21_23 := Lh ((bz.block _ (blkX hxY_9_20_21.out)).trans hxY_9_20_21.out)
      clear bz
      rw [← hVV, ← hsb]
      replace hVV := Lh hVV; replace hsb := Lh hsb
      refine hK _ _ (hSv.out _ kY_9_20_21_23.out qY_9_20_21_23.out) (fun hH => ?_)
      clear hK K
      refine wpAnyH_ready (rs := [24]) (by kernel_rfl) (by simp) ?_
      refine AllReadyH.cons rfl (fun K hK => ?_) ?_
      ·
       clear hH
       have e0 := blkC zY_9_20_21_23.out 0
       have e1 := blkC zY_9_20_21_23.out 1
       have e2 := blkC zY_9_20_21_23.out 2
       have e3 := blkC zY_9_20_21_23.out 3
       have e4 := blkC zY_9_20_21_23.out 4
       have e5 := blkC zY_9_20_21_23.out 5
       have e6 := blkC zY_9_20_21_23.out 6
       have e7 := blkC zY_9_20_21_23.out 7
       have ef := blkF zY_9_20_21_23.out; have ex := blkX zY_9_20_21_23.out
       simp only [List.getElem?_toArray, List.getElem?_cons_zero, List.getElem?_cons_succ] at e0 e1 e2 e3 e4 e5 e6 e7
       go_simp
       have hst := sta_store zY_9_20_21_23.out (.int .i64 x.group) (.int .i64 x.app) (.slice AR x.own.length cR) (.slice A1 x.cnt.length c1) (.slice A2 x.cnt.length c2) (.slice A3 x.mem.length c3) (.slice none 0 0) (.slice AT x.tak.length cT)
       have hfa := fun k (hk : k ≠ sb) => sta_far (W := Y_9_20_21_23) hk (.int .i64 x.group) (.int .i64 x.app) (.slice AR x.own.length cR) (.slice A1 x.cnt.length c1) (.slice A2 x.cnt.length c2) (.slice A3 x.mem.length c3) (.slice none 0 0) (.slice AT x.tak.length cT)
       have hbe := sta_bel kY_9_20_21_23.out (Nat.le_of_lt hsl.out) (.int .i64 x.group) (.int .i64 x.app) (.slice AR x.own.length cR) (.slice A1 x.cnt.length c1) (.slice A2 x.cnt.length c2) (.slice A3 x.mem.length c3) (.slice none 0 0) (.slice AT x.tak.length cT)
       generalize hV9 : (((((((Y_9_20_21_23.setCell ⟨sb, 0, none⟩ (.int .i64 x.group)).setCell ⟨sb, 1, none⟩ (.int .i64 x.app)).setCell ⟨sb, 2, none⟩ (.slice AR x.own.length cR)).setCell ⟨sb, 3, none⟩ (.slice A1 x.cnt.length c1)).setCell ⟨sb, 4, none⟩ (.slice A2 x.cnt.length c2)).setCell ⟨sb, 5, none⟩ (.slice A3 x.mem.length c3)).setCell ⟨sb, 6, none⟩ (.slice none 0 0)).setCell ⟨sb, 7, none⟩ (.slice AT x.tak.length cT) = V9 at hst hfa hbe ⊢
       have hS9 := hSY_9_20_21_23.out.same hbe (fun k cs t q ht => hfa k (ne_cells q zY_9_20_21_23.out ht))
       have q9 := (hfa pb (by have := hpl.out; omega)).trans qY_9_20_21_23.out
       have r9 := (hfa v.heap.size (by have := hsl.out; omega)).trans bbY_9_20_21_23.out
       replace hst := Lh hst; replace hS9 := Lh hS9; replace r9 := Lh r9; replace q9 := Lh q9
       refine hK _ _ (hSv.out _ hbe q9.out) (fun hH => ?_)
       clear hK K hfa hbe e0 e1 e2 e3 e4 e5 e6 e7 ef ex
       refine wpAnyH_done (by kernel_rfl) ?_ _
       clear hH
       exact hfin V9 AR cR AT cT sb bx ⟨hS9.out, hst.out, r9.out, hsl.out⟩
      exact AllReadyH.nil
     exact AllReadyH.nil
    refine AllReadyH.cons rfl (fun K hK => ?_) ?_
    ·
     clear hH
     go_simp
     obtain ⟨Y_9_20_23, hVV⟩ : ∃ Z, Z = Y_9_20.alloc (.cells #[.int .i64 0, .int .i64 0, .slice none 0 0, .slice none 0 0, .slice none 0 0, .slice none 0 0, .slice none 0 0, .slice none 0 0] 49) := ⟨_, rfl⟩
     have bz : Below Y_9_20.heap.size Y_9_20 Y_9_20_23 := by rw [hVV]; exact (Below.refl _ _).alloc (Nat.le_refl _) _
     obtain ⟨sb, hsb⟩ : ∃ n, n = Y_9_20.heap.size := ⟨_, rfl⟩
     have zY_9_20_23 := Lh (show Y_9_20_23.heap[sb]? = some (.cells #[.int .i64 0, .int .i64 0, .slice none 0 0, .slice none 0 0, .slice none 0 0, .slice none 0 0, .slice none 0 0, .slice none 0 0] 49 (0, 0)) from by rw [hVV, hsb]; exact hpNew _ _)
     have hsl := Lh (show v.heap.size < sb from by rw [hsb]; exact blkX bbY_9_20.out)
     have hpl := Lh (show pb < sb from by rw [hsb]; exact blkX qY_9_20.out)
     have kY_9_20_23 := Lh (kY_9_20.out.trans (bz.mono kY_9_20.out.size))
     have qY_9_20_23 := Lh ((bz.block _ (blkX qY_9_20.out)).trans qY_9_20.out)
     have bbY_9_20_23 := Lh ((bz.block _ (blkX bbY_9_20.out)).trans bbY_9_20.out)
     have hSY_9_20_23 := Lh (hSY_9_20.out.below bz)
     have hxY_9_20_23 := Lh ((bz.block _ (blkX hxY_9_20.out)).trans hxY_9_20.out)
     clear bz
     rw [← hVV, ← hsb]
     replace hVV := Lh hVV; replace hsb := Lh hsb
     refine hK _ _ (hSv.out _ kY_9_20_23.out qY_9_20_23.out) (fun hH => ?_)
     clear hK K
     refine wpAnyH_ready (rs := [21]) (by kernel_rfl) (by simp) ?_
     refine AllReadyH.cons rfl (fun K hK => ?_) ?_
     ·
      clear hH
      go_simp
      refine (htk.out _ bx kY_9_20_23.out hxY_9_20_23.out).mono ?_
      rintro e Y_9_20_21_23 ⟨AT, cT, rfl, hoT, bz⟩
      have kY_9_20_21_23 := Lh (kY_9_20_23.out.trans (bz.mono kY_9_20_23.out.size))
      have qY_9_20_21_23 := Lh ((bz.block _ (blkX qY_9_20_23.out)).trans qY_9_20_23.out)
      have bbY_9_20_21_23 := Lh ((bz.block _ (blkX bbY_9_20_23.out)).trans bbY_9_20_23.out)
      have hSY_9_20_21_23 := Lh (StaR.putT (hSY_9_20_23.out.below bz) (own_row_re hoT kY_9_20_23.out.size))
      have hxY_9_20_21_23 := Lh ((bz.block _ (blkX hxY_9_20_23.out)).trans hxY_9_20_23.out)
      have zY_9_20_21_23 := Lh ((bz.block _ (blkX zY_9_20_23.out)).trans zY_9_20_23.out)
      clear bz hoT
      refine hK _ _ (hSv.out _ kY_9_20_21_23.out qY_9_20_21_23.out) (fun hH => ?_)
      clear hK K
      refine tl 22 hH ?_
      refine wpAnyH_ready (rs := [24]) (by kernel_rfl) (by simp) ?_
      refine AllReadyH.cons rfl (fun K hK => ?_) ?_
      ·
       clear hH
       have e0 := blkC zY_9_20_21_23.out 0
       have e1 := blkC zY_9_20_21_23.out 1
       have e2 := blkC zY_9_20_21_23.out 2
       have e3 := blkC zY_9_20_21_23.out 3
       have e4 := blkC zY_9_20_21_23.out 4
       have e5 := blkC zY_9_20_21_23.out 5
       have e6 := blkC zY_9_20_21_23.out 6
       have e7 := blkC zY_9_20_21_23.out 7
       have ef := blkF zY_9_20_21_23.out; have ex := blkX zY_9_20_21_23.out
       simp only [List.getElem?_toArray, List.getElem?_cons_zero, List.getElem?_cons_succ] at e0 e1 e2 e3 e4 e5 e6 e7
       go_simp
       have hst := sta_store zY_9_20_21_23.out (.int .i64 x.group) (.int .i64 x.app) (.slice AR x.own.length cR) (.slice A1 x.cnt.length c1) (.slice A2 x.cnt.length c2) (.slice A3 x.mem.length c3) (.slice none 0 0) (.slice AT x.tak.length cT)
       have hfa := fun k (hk : k ≠ sb) => sta_far (W := Y_9_20_21_23) hk (.int .i64 x.group) (.int .i64 x.app) (.slice AR x.own.length cR) (.slice A1 x.cnt.length c1) (.slice A2 x.cnt.length c2) (.slice A3 x.mem.length c3) (.slice none 0 0) (.slice AT x.tak.length cT)
       have hbe := sta_bel kY_9_20_21_23.out (Nat.le_of_lt hsl.out) (.int .i64 x.group) (.int .i64 x.app) (.slice AR x.own.length cR) (.slice A1 x.cnt.length c1) (.slice A2 x.cnt.length c2) (.slice A3 x.mem.length c3) (.slice none 0 0) (.slice AT x.tak.length cT)
       generalize hV9 : (((((((Y_9_20_21_23.setCell ⟨sb, 0, none⟩ (.int .i64 x.group)).setCell ⟨sb, 1, none⟩ (.int .i64 x.app)).setCell ⟨sb, 2, none⟩ (.slice AR x.own.length cR)).setCell ⟨sb, 3, none⟩ (.slice A1 x.cnt.length c1)).setCell ⟨sb, 4, none⟩ (.slice A2 x.cnt.length c2)).setCell ⟨sb, 5, none⟩ (.slice A3 x.mem.length c3)).setCell ⟨sb, 6, none⟩ (.slice none 0 0)).setCell ⟨sb, 7, none⟩ (.slice AT x.tak.length cT) = V9 at hst hfa hbe ⊢
       have hS9 := hSY_9_20_21_23.out.same hbe (fun k cs t q ht => hfa k (ne_cells q zY_9_20_21_23.out ht))
       have q9 := (hfa pb (by have := hpl.out; omega)).trans qY_9_20_21_23.out
       have r9 := (hfa v.heap.size (by have := hsl.out; omega)).trans bbY_9_20_21_23.out
       replace hst := Lh hst; replace hS9 := Lh hS9; replace r9 := Lh r9; replace q9 := Lh q9
       refine hK _ _ (hSv.out _ hbe q9.out) (fun hH => ?_)
       clear hK K hfa hbe e0 e1 e2 e3 e4 e5 e6 e7 ef ex
       refine wpAnyH_done (by kernel_rfl) ?_ _
       clear hH
       exact hfin V9 AR cR AT cT sb bx ⟨hS9.out, hst.out, r9.out, hsl.out⟩
      exact AllReadyH.nil
     exact AllReadyH.nil
    exact AllReadyH.nil
   refine AllReadyH.cons rfl (fun K hK => ?_) ?_
   ·
    clear hH
    go_simp
    obtain ⟨Y_9_23, hVV⟩ : ∃ Z, Z = Y_9.alloc (.cells #[.int .i64 0, .int .i64 0, .slice none 0 0, .slice none 0 0, .slice none 0 0, .slice none 0 0, .slice none 0 0, .slice none 0 0] 49) := ⟨_, rfl⟩
    have bz : Below Y_9.heap.size Y_9 Y_9_23 := by rw [hVV]; exact (Below.refl _ _).alloc (Nat.le_refl _) _
    obtain ⟨sb, hsb⟩ : ∃ n, n = Y_9.heap.size := ⟨_, rfl⟩
    have zY_9_23 := Lh (show Y_9_23.heap[sb]? = some (.cells #[.int .i64 0, .int .i64 0, .slice none 0 0, .slice none 0 0, .slice none 0 0, .slice none 0 0, .slice none 0 0, .slice none 0 0] 49 (0, 0)) from by rw [hVV, hsb]; exact hpNew _ _)
    have hsl := Lh (show v.heap.size < sb from by rw [hsb]; exact blkX bbY_9.out)
    have hpl := Lh (show pb < sb from by rw [hsb]; exact blkX qY_9.out)
    have kY_9_23 := Lh (kY_9.out.trans (bz.mono kY_9.out.size))
    have qY_9_23 := Lh ((bz.block _ (blkX qY_9.out)).trans qY_9.out)
    have bbY_9_23 := Lh ((bz.block _ (blkX bbY_9.out)).trans bbY_9.out)
    have hSY_9_23 := Lh (hSY_9.out.below bz)
    clear bz
    rw [← hVV, ← hsb]
    replace hVV := Lh hVV; replace hsb := Lh hsb
    refine hK _ _ (hSv.out _ kY_9_23.out qY_9_23.out) (fun hH => ?_)
    clear hK K
    refine wpAnyH_ready (rs := [20]) (by kernel_rfl) (by simp) ?_
    refine AllReadyH.cons rfl (fun K hK => ?_) ?_
    ·
     clear hH
     go_simp
     refine (htm.out _).mono ?_
     rintro e Y_9_20_23 ⟨rfl, hZ⟩
     have bz : Below Y_9_23.heap.size Y_9_23 Y_9_20_23 := by rw [hZ]; exact (Below.refl _ _).alloc (Nat.le_refl _) _
     obtain ⟨bx, hbx⟩ : ∃ n, n = Y_9_23.heap.size := ⟨_, rfl⟩
     have hxY_9_20_23 := Lh (show Y_9_20_23.heap[bx]? = some (.cells #[.map (some p.T)] 86 (0, 0)) by rw [hZ, hbx]; exact hpNew _ _)
     have kY_9_20_23 := Lh (kY_9_23.out.trans (bz.mono kY_9_23.out.size))
     have qY_9_20_23 := Lh ((bz.block _ (blkX qY_9_23.out)).trans qY_9_23.out)
     have bbY_9_20_23 := Lh ((bz.block _ (blkX bbY_9_23.out)).trans bbY_9_23.out)
     have hSY_9_20_23 := Lh (hSY_9_23.out.below bz)
     have zY_9_20_23 := Lh ((bz.block _ (blkX zY_9_23.out)).trans zY_9_23.out)
     clear bz
     rw [← hbx]
     replace hbx := Lh hbx; replace hZ := Lh hZ
     refine hK _ _ (hSv.out _ kY_9_20_23.out qY_9_20_23.out) (fun hH => ?_)
     clear hK K
     refine wpAnyH_ready (rs := [21]) (by kernel_rfl) (by simp) ?_
     refine AllReadyH.cons rfl (fun K hK => ?_) ?_
     ·
      clear hH
      go_simp
      refine (htk.out _ bx kY_9_20_23.out hxY_9_20_23.out).mono ?_
      rintro e Y_9_20_21_23 ⟨AT, cT, rfl, hoT, bz⟩
      have kY_9_20_21_23 := Lh (kY_9_20_23.out.trans (bz.mono kY_9_20_23.out.size))
      have qY_9_20_21_23 := Lh ((bz.block _ (blkX qY_9_20_23.out)).trans qY_9_20_23.out)
      have bbY_9_20_21_23 := Lh ((bz.block _ (blkX bbY_9_20_23.out)).trans bbY_9_20_23.out)
      have hSY_9_20_21_23 := Lh (StaR.putT (hSY_9_20_23.out.below bz) (own_row_re hoT kY_9_20_23.out.size))
      have hxY_9_20_21_23 := Lh ((bz.block _ (blkX hxY_9_20_23.out)).trans hxY_9_20_23.out)
      have zY_9_20_21_23 := Lh ((bz.block _ (blkX zY_9_20_23.out)).trans zY_9_20_23.out)
      clear bz hoT
      refine hK _ _ (hSv.out _ kY_9_20_21_23.out qY_9_20_21_23.out) (fun hH => ?_)
      clear hK K
      refine tl 22 hH ?_
      refine wpAnyH_ready (rs := [24]) (by kernel_rfl) (by simp) ?_
      refine AllReadyH.cons rfl (fun K hK => ?_) ?_
      ·
       clear hH
       have e0 := blkC zY_9_20_21_23.out 0
       have e1 := blkC zY_9_20_21_23.out 1
       have e2 := blkC zY_9_20_21_23.out 2
       have e3 := blkC zY_9_20_21_23.out 3
       have e4 := blkC zY_9_20_21_23.out 4
       have e5 := blkC zY_9_20_21_23.out 5
       have e6 := blkC zY_9_20_21_23.out 6
       have e7 := blkC zY_9_20_21_23.out 7
       have ef := blkF zY_9_20_21_23.out; have ex := blkX zY_9_20_21_23.out
       simp only [List.getElem?_toArray, List.getElem?_cons_zero, List.getElem?_cons_succ] at e0 e1 e2 e3 e4 e5 e6 e7
       go_simp
       have hst := sta_store zY_9_20_21_23.out (.int .i64 x.group) (.int .i64 x.app) (.slice AR x.own.length cR) (.slice A1 x.cnt.length c1) (.slice A2 x.cnt.length c2) (.slice A3 x.mem.length c3) (.slice none 0 0) (.slice AT x.tak.length cT)
       have hfa := fun k (hk : k ≠ sb) => sta_far (W := Y_9_20_21_23) hk (.int .i64 x.group) (.int .i64 x.app) (.slice AR x.own.length cR) (.slice A1 x.cnt.length c1) (.slice A2 x.cnt.length c2) (.slice A3 x.mem.length c3) (.slice none 0 0) (.slice AT x.tak.length cT)
       have hbe := sta_bel kY_9_20_21_23.out (Nat.le_of_lt hsl.out) (.int .i64 x.group) (.int .i64 x.app) (.slice AR x.own.length cR) (.slice A1 x.cnt.length c1) (.slice A2 x.cnt.length c2) (.slice A3 x.mem.length c3) (.slice none 0 0) (.slice AT x.tak.length cT)
       generalize hV9 : (((((((Y_9_20_21_23.setCell ⟨sb, 0, none⟩ (.int .i64 x.group)).setCell ⟨sb, 1, none⟩ (.int .i64 x.app)).setCell ⟨sb, 2, none⟩ (.slice AR x.own.length cR)).setCell ⟨sb, 3, none⟩ (.slice A1 x.cnt.length c1)).setCell ⟨sb, 4, none⟩ (.slice A2 x.cnt.length c2)).setCell ⟨sb, 5, none⟩ (.slice A3 x.mem.length c3)).setCell ⟨sb, 6, none⟩ (.slice none 0 0)).setCell ⟨sb, 7, none⟩ (.slice AT x.tak.length cT) = V9 at hst hfa hbe ⊢
       have hS9 := hSY_9_20_21_23.out.same hbe (fun k cs t q ht => hfa k (ne_cells q zY_9_20_21_23.out ht))
       have q9 := (hfa pb (by have := hpl.out; omega)).trans qY_9_20_21_23.out
       have r9 := (hfa v.heap.size (by have := hsl.out; omega)).trans bbY_9_20_21_23.out
       replace hst := Lh hst; replace hS9 := Lh hS9; replace r9 := Lh r9; replace q9 := Lh q9
       refine hK _ _ (hSv.out _ hbe q9.out) (fun hH => ?_)
       clear hK K hfa hbe e0 e1 e2 e3 e4 e5 e6 e7 ef ex
       refine wpAnyH_done (by kernel_rfl) ?_ _
       clear hH
       exact hfin V9 AR cR AT cT sb bx ⟨hS9.out, hst.out, r9.out, hsl.out⟩
      exact AllReadyH.nil
     exact AllReadyH.nil
    exact AllReadyH.nil
   exact AllReadyH.nil
  refine AllReadyH.cons rfl (fun K hK => ?_) ?_
  ·
   clear hH
   try rw [← hY.out]
   go_simp
   obtain ⟨Y_23, hVV⟩ : ∃ Z, Z = Y.alloc (.cells #[.int .i64 0, .int .i64 0, .slice none 0 0, .slice none 0 0, .slice none 0 0, .slice none 0 0, .slice none 0 0, .slice none 0 0] 49) := ⟨_, rfl⟩
   have bz : Below Y.heap.size Y Y_23 := by rw [hVV]; exact (Below.refl _ _).alloc (Nat.le_refl _) _
   obtain ⟨sb, hsb⟩ : ∃ n, n = Y.heap.size := ⟨_, rfl⟩
   have zY_23 := Lh (show Y_23.heap[sb]? = some (.cells #[.int .i64 0, .int .i64 0, .slice none 0 0, .slice none 0 0, .slice none 0 0, .slice none 0 0, .slice none 0 0, .slice none 0 0] 49 (0, 0)) from by rw [hVV, hsb]; exact hpNew _ _)
   have hsl := Lh (show v.heap.size < sb from by rw [hsb]; exact blkX bbY.out)
   have hpl := Lh (show pb < sb from by rw [hsb]; exact blkX qY.out)
   have kY_23 := Lh (kY.out.trans (bz.mono kY.out.size))
   have qY_23 := Lh ((bz.block _ (blkX qY.out)).trans qY.out)
   have bbY_23 := Lh ((bz.block _ (blkX bbY.out)).trans bbY.out)
   have hSY_23 := Lh (hSY.out.below bz)
   clear bz
   rw [← hVV, ← hsb]
   replace hVV := Lh hVV; replace hsb := Lh hsb
   refine hK _ _ (hSv.out _ kY_23.out qY_23.out) (fun hH => ?_)
   clear hK K
   refine wpAnyH_ready (rs := [9]) (by kernel_rfl) (by simp) ?_
   refine AllReadyH.cons rfl (fun K hK => ?_) ?_
   ·
    clear hH
    go_simp
    refine (hrg.out _ kY_23.out).mono ?_
    rintro e Y_9_23 ⟨AR, cR, rfl, hoR, bz⟩
    have kY_9_23 := Lh (kY_23.out.trans (bz.mono kY_23.out.size))
    have qY_9_23 := Lh ((bz.block _ (blkX qY_23.out)).trans qY_23.out)
    have bbY_9_23 := Lh ((bz.block _ (blkX bbY_23.out)).trans bbY_23.out)
    have hSY_9_23 := Lh ({ (hSY_23.out.below bz) with oR := own_row_re hoR kY_23.out.size })
    have zY_9_23 := Lh ((bz.block _ (blkX zY_23.out)).trans zY_23.out)
    clear bz hoR
    refine hK _ _ (hSv.out _ kY_9_23.out qY_9_23.out) (fun hH => ?_)
    clear hK K
    refine wpAnyH_ready (rs := [20]) (by kernel_rfl) (by simp) ?_
    refine AllReadyH.cons rfl (fun K hK => ?_) ?_
    ·
     clear hH
     go_simp
     refine (htm.out _).mono ?_
     rintro e Y_9_20_23 ⟨rfl, hZ⟩
     have bz : Below Y_9_23.heap.size Y_9_23 Y_9_20_23 := by rw [hZ]; exact (Below.refl _ _).alloc (Nat.le_refl _) _
     obtain ⟨bx, hbx⟩ : ∃ n, n = Y_9_23.heap.size := ⟨_, rfl⟩
     have hxY_9_20_23 := Lh (show Y_9_20_23.heap[bx]? = some (.cells #[.map (some p.T)] 86 (0, 0)) by rw [hZ, hbx]; exact hpNew _ _)
     have kY_9_20_23 := Lh (kY_9_23.out.trans (bz.mono kY_9_23.out.size))
     have qY_9_20_23 := Lh ((bz.block _ (blkX qY_9_23.out)).trans qY_9_23.out)
     have bbY_9_20_23 := Lh ((bz.block _ (blkX bbY_9_23.out)).trans bbY_9_23.out)
     have hSY_9_20_23 := Lh (hSY_9_23.out.below bz)
     have zY_9_20_23 := Lh ((bz.block _ (blkX zY_9_23.out)).trans zY_9_23.out)
     clear bz
     rw [← hbx]
     replace hbx := Lh hbx; replace hZ := Lh hZ
     refine hK _ _ (hSv.out _ kY_9_20_23.out qY_9_20_23.out) (fun hH => ?_)
     clear hK K
     refine wpAnyH_ready (rs := [21]) (by kernel_rfl) (by simp) ?_
     refine AllReadyH.cons rfl (fun K hK => ?_) ?_
     ·
      clear hH
      go_simp
      refine (htk.out _ bx kY_9_20_23.out hxY_9_20_23.out).mono ?_
      rintro e Y_9_20_21_23 ⟨AT, cT, rfl, hoT, bz⟩
      have kY_9_20_21_23 := Lh (kY_9_20_23.out.trans (bz.mono kY_9_20_23.out.size))
      have qY_9_20_21_23 := Lh ((bz.block _ (blkX qY_9_20_23.out)).trans qY_9_20_23.out)
      have bbY_9_20_21_23 := Lh ((bz.block _ (blkX bbY_9_20_23.out)).trans bbY_9_20_23.out)
      have hSY_9_20_21_23 := Lh (StaR.putT (hSY_9_20_23.out.below bz) (own_row_re hoT kY_9_20_23.out.size))
      have hxY_9_20_21_23 := Lh ((bz.block _ (blkX hxY_9_20_23.out)).trans hxY_9_20_23.out)
      have zY_9_20_21_23 := Lh ((bz.block _ (blkX zY_9_20_23.out)).trans zY_9_20_23.out)
      clear bz hoT
      refine hK _ _ (hSv.out _ kY_9_20_21_23.out qY_9_20_21_23.out) (fun hH => ?_)
      clear hK K
      refine tl 22 hH ?_
      refine wpAnyH_ready (rs := [24]) (by kernel_rfl) (by simp) ?_
      refine AllReadyH.cons rfl (fun K hK => ?_) ?_
      ·
       clear hH
       have e0 := blkC zY_9_20_21_23.out 0
       have e1 := blkC zY_9_20_21_23.out 1
       have e2 := blkC zY_9_20_21_23.out 2
       have e3 := blkC zY_9_20_21_23.out 3
       have e4 := blkC zY_9_20_21_23.out 4
       have e5 := blkC zY_9_20_21_23.out 5
       have e6 := blkC zY_9_20_21_23.out 6
       have e7 := blkC zY_9_20_21_23.out 7
       have ef := blkF zY_9_20_21_23.out; have ex := blkX zY_9_20_21_23.out
       simp only [List.getElem?_toArray, List.getElem?_cons_zero, List.getElem?_cons_succ] at e0 e1 e2 e3 e4 e5 e6 e7
       go_simp
       have hst := sta_store zY_9_20_21_23.out (.int .i64 x.group) (.int .i64 x.app) (.slice AR x.own.length cR) (.slice A1 x.cnt.length c1) (.slice A2 x.cnt.length c2) (.slice A3 x.mem.length c3) (.slice none 0 0) (.slice AT x.tak.length cT)
       have hfa := fun k (hk : k ≠ sb) => sta_far (W := Y_9_20_21_23) hk (.int .i64 x.group) (.int .i64 x.app) (.slice AR x.own.length cR) (.slice A1 x.cnt.length c1) (.slice A2 x.cnt.length c2) (.slice A3 x.mem.length c3) (.slice none 0 0) (.slice AT x.tak.length cT)
       have hbe := sta_bel kY_9_20_21_23.out (Nat.le_of_lt hsl.out) (.int .i64 x.group) (.int .i64 x.app) (.slice AR x.own.length cR) (.slice A1 x.cnt.length c1) (.slice A2 x.cnt.length c2) (.slice A3 x.mem.length c3) (.slice none 0 0) (.slice AT x.tak.length cT)
       generalize hV9 : (((((((Y_9_20_21_23.setCell ⟨sb, 0, none⟩ (.int .i64 x.group)).setCell ⟨sb, 1, none⟩ (.int .i64 x.app)).setCell ⟨sb, 2, none⟩ (.slice AR x.own.length cR)).setCell ⟨sb, 3, none⟩ (.slice A1 x.cnt.length c1)).setCell ⟨sb, 4, none⟩ (.slice A2 x.cnt.length c2)).setCell ⟨sb, 5, none⟩ (.slice A3 x.mem.length c3)).setCell ⟨sb, 6, none⟩ (.slice none 0 0)).setCell ⟨sb, 7, none⟩ (.slice AT x.tak.length cT) = V9 at hst hfa hbe ⊢
       have hS9 := hSY_9_20_21_23.out.same hbe (fun k cs t q ht => hfa k (ne_cells q zY_9_20_21_23.out ht))
       have q9 := (hfa pb (by have := hpl.out; omega)).trans qY_9_20_21_23.out
       have r9 := (hfa v.heap.size (by have := hsl.out; omega)).trans bbY_9_20_21_23.out
       replace hst := Lh hst; replace hS9 := Lh hS9; replace r9 := Lh r9; replace q9 := Lh q9
       refine hK _ _ (hSv.out _ hbe q9.out) (fun hH => ?_)
       clear hK K hfa hbe e0 e1 e2 e3 e4 e5 e6 e7 ef ex
       refine wpAnyH_done (by kernel_rfl) ?_ _
       clear hH
       exact hfin V9 AR cR AT cT sb bx ⟨hS9.out, hst.out, r9.out, hsl.out⟩
      exact AllReadyH.nil
     exact AllReadyH.nil
    exact AllReadyH.nil
   exact AllReadyH.nil
  exact AllReadyH.nil
 ·
  rintro V AR cR AT cT sb bx0 ⟨hS, hsb, hres, hsl⟩
  have hV := h.out.below hS.bel
  have s5 : V.cell? ⟨p.S, 5, none⟩ = some (.map (some p.G)) := blkC hV.blk 5
  have sx := hV.lt
  replace hV := Lh hV; replace hS := Lh hS; replace hsb := Lh hsb; replace hres := Lh hres; replace hsl := Lh hsl
  go_wp2_with (fail)
  refine (hgm.out _).mono ?_
  rintro e V1 ⟨rfl, hZ⟩
  have bz : Below V.heap.size V V1 := by rw [hZ]; exact (Below.refl _ _).alloc (Nat.le_refl _) _
  have hx1 : V1.heap[V.heap.size]? = some (.cells #[.map (some p.G)] 85 (0, 0)) := by rw [hZ]; exact hpNew _ _
  have hS1 := hS.out.below bz
  have hsb1 := (bz.block _ (blkX hsb.out)).trans hsb.out
  have hre1 := (bz.block _ (blkX hres.out)).trans hres.out
  have hq := hgk.out V1 V.heap.size hS1.bel hx1
  replace hS1 := Lh hS1; replace hsb1 := Lh hsb1; replace hre1 := Lh hre1
  clear bz hx1 hZ s5 sx
  go_wp2_with (fail)
  refine hq.mono ?_
  rintro e V2 ⟨A5, c5, rfl, h5, bz⟩
  have hS2 := Lh (hS1.out.below bz)
  have hsb2 := Lh ((bz.block _ (blkX hsb1.out)).trans hsb1.out)
  have hre2 := Lh ((bz.block _ (blkX hre1.out)).trans hre1.out)
  have h52 := Lh (own_row_re h5 hS1.out.bel.size)
  clear bz h5 hq
  go_wp2_with (fail)
  go_loopw [44] (fun i wr => ∃ (j : Nat) (AG : Option Addr) (cG : Nat), j ≤ x.giv.length ∧ i = .int .i64 j ∧ StaR v x.own x.cnt x.mem (x.giv.take j) (x.tak.map (·.1)) AR cR A1 c1 A2 c2 A3 c3 AG cG AT cT wr ∧ wr.heap[sb]? = some (.cells #[.int .i64 x.group, .int .i64 x.app, .slice AR x.own.length cR, .slice A1 x.cnt.length c1, .slice A2 x.cnt.length c2, .slice A3 x.mem.length c3, .slice AG (x.giv.take j).length cG, .slice AT x.tak.length cT] 49 (0, 0)) ∧ wr.heap[v.heap.size]? = some (.cells #[.int .i64 0, .int .i64 0, .slice none 0 0, .slice none 0 0, .slice none 0 0, .slice none 0 0, .slice none 0 0, .slice none 0 0] 49 (0, 0)) ∧ wr.ownsRow v.heap.size 3 1 (.slice A5 x.giv.length c5) x.giv.length (flat encI1 (x.giv.map (·.1)))) (fun i _ => x.giv.length - (intOf i).toNat)
  case atStart => exact ⟨0, none, 0, by omega, rfl, hS2.out, hsb2.out, hre2.out, h52.out⟩
  case round =>
   clear hS2 hsb2 hre2 h52
   revert wr
   intro X hrel
   obtain ⟨j, AG, cG, hj, rfl, hSX, hbX, hrX, h5X⟩ := hrel
   have hjl : (x.giv.take j).length = j := by rw [List.length_take]; omega
   by_cases hlt2 : j < x.giv.length
   ·
    have hkX : SL encI1 1 X A5 x.giv.length (x.giv.map (·.1)) := SL.of_own encI1_len h5X (by simp)
    obtain ⟨b, o, k, rfl, hbl, hxk, hc⟩ := SL.at_ hkX hlt2
    obtain ⟨y, hy, rfl⟩ : ∃ y, x.giv[j]? = some y ∧ y.1 = k := by rw [List.getElem?_map] at hxk; simpa [Option.map_eq_some_iff] using hxk
    have s9 := hc 0 _ rfl
    rw [Nat.mul_one, Nat.add_zero] at s9
    have hlo := AOrd.look ltZ_ok h.out.ogiv (List.mem_of_getElem? hy)
    have hyw := wf_lit (hgw y (List.mem_of_getElem? hy))
    have hnx : x.giv.take (j + 1) = x.giv.take j ++ [y] := by rw [List.take_add_one, hy]; rfl
    obtain ⟨yn, ys⟩ := y
    simp only at s9 hyw hlo
    clear hc hxk hkX
    obtain ⟨Y8, hY8⟩ : ∃ W, W = X.drew := ⟨_, rfl⟩
    have bY : Below X.heap.size X Y8 := by rw [hY8]; exact (Below.refl _ _).drew
    have hSY := hSX.below bY
    have hbY := (bY.block _ (blkX hbX)).trans hbX
    have hrY := (bY.block _ (blkX hrX)).trans hrX
    have h5Y : Y8.ownsRow v.heap.size 3 1 (.slice (some ⟨b, o, none⟩) x.giv.length c5) x.giv.length (flat encI1 (x.giv.map (·.1))) := own_by h5X fun _ _ _ q => bY.block _ (blkX q)
    have hsY := h.out.below hSY.bel
    have hlk : (Instr.lookup 85 (.map (some p.G)) (.int .i64 yn) false).run Tryz.prog Y8 = .ok (.string ys) Y8 := MapOf.look hsY.giv (Maps.int_keyed undI2) undGv (Tryz.zeroValue9 Y8) (Maps.keyOf_int_mk undI2 hyw) (by rw [iF_some, hlo]; rfl)
    have q6 : Y8.cell? ⟨sb, 6, none⟩ = some (.slice AG j cG) := by have q := blkC hbY 6; simp only [hjl, List.getElem?_toArray, List.getElem?_cons_zero, List.getElem?_cons_succ] at q; exact q
    have q5 : Y8.cell? ⟨p.S, 5, none⟩ = some (.map (some p.G)) := blkC hsY.blk 5
    have j0 : (0 : Int) ≤ j := by omega
    have j1 : (j : Int) < (x.giv.length : Int) := by omega
    replace hSX := Lh hSX; replace hbX := Lh hbX; replace hrX := Lh hrX; replace h5X := Lh h5X; replace hSY := Lh hSY; replace hbY := Lh hbY; replace hrY := Lh hrY; replace h5Y := Lh h5Y; replace hsY := Lh hsY; replace hlk := Lh hlk; replace q6 := Lh q6; replace q5 := Lh q5; replace hY8 := Lh hY8; replace hnx := Lh hnx; replace hjl := Lh hjl; replace hlo := Lh hlo; replace hyw := Lh hyw; replace hy := Lh hy
    clear bY
    go_wp2_with (fail)
    clear s9
    obtain ⟨Z, hZ⟩ : ∃ Z, Z = Y8.alloc (.cells #[.int .i64 yn, .string ys] 95) := ⟨_, rfl⟩
    have bZ : Below Y8.heap.size Y8 Z := by rw [hZ]; exact (Below.refl _ _).alloc (Nat.le_refl _) _
    have lZ : Z.heap[Y8.heap.size]? = some (.cells #[.int .i64 yn, .string ys] 95 (0, 0)) := by rw [hZ]; exact hpNew _ _
    obtain ⟨A', c', V6, hrun, hfr, hgr, hSe⟩ := (hSY.out.below bZ).app (y := (yn, ys)) lZ (by rw [hjl.out]; omega)
    rw [hjl.out] at hrun
    have hbZ := (bZ.block _ (blkX hbY.out)).trans hbY.out
    have hrZ := (bZ.block _ (blkX hrY.out)).trans hrY.out
    have h5Z : Z.ownsRow v.heap.size 3 1 (.slice (some ⟨b, o, none⟩) x.giv.length c5) x.giv.length (flat encI1 (x.giv.map (·.1))) := own_by h5Y.out fun _ _ _ q => bZ.block _ (blkX q)
    have hb6 := (hfr _ _ _ _ hbZ (by decide)).trans hbZ
    have hr6 := (hfr _ _ _ _ hrZ (by decide)).trans hrZ
    have h56 : V6.ownsRow v.heap.size 3 1 (.slice (some ⟨b, o, none⟩) x.giv.length c5) x.giv.length (flat encI1 (x.giv.map (·.1))) := own_by h5Z fun _ _ _ q => hfr _ _ _ _ q (by decide)
    have hne : v.heap.size ≠ sb := by have := hsl.out; omega
    have hl1 : (x.giv.take j ++ [(yn, ys)]).length = j + 1 := by rw [List.length_append, hjl.out]; rfl
    have hb7 : (V6.setCell ⟨sb, 6, none⟩ (.slice A' (j + 1) c')).heap[sb]? = some (.cells (#[.int .i64 x.group, .int .i64 x.app, .slice AR x.own.length cR, .slice A1 x.cnt.length c1, .slice A2 x.cnt.length c2, .slice A3 x.mem.length c3, .slice AG (x.giv.take j).length cG, .slice AT x.tak.length cT].setIfInBounds 6 (.slice A' (j + 1) c')) 49 (0, 0)) := hpSet (i := 6) (v := .slice A' (j + 1) c') hb6
    have hfin := Lh (show StaR v x.own x.cnt x.mem (x.giv.take (j + 1)) (x.tak.map (·.1)) AR cR A1 c1 A2 c2 A3 c3 A' c' AT cT (V6.setCell ⟨sb, 6, none⟩ (.slice A' (j + 1) c')) ∧ (V6.setCell ⟨sb, 6, none⟩ (.slice A' (j + 1) c')).heap[sb]? = some (.cells #[.int .i64 x.group, .int .i64 x.app, .slice AR x.own.length cR, .slice A1 x.cnt.length c1, .slice A2 x.cnt.length c2, .slice A3 x.mem.length c3, .slice A' (x.giv.take (j + 1)).length c', .slice AT x.tak.length cT] 49 (0, 0)) ∧ (V6.setCell ⟨sb, 6, none⟩ (.slice A' (j + 1) c')).heap[v.heap.size]? = some (.cells #[.int .i64 0, .int .i64 0, .slice none 0 0, .slice none 0 0, .slice none 0 0, .slice none 0 0, .slice none 0 0, .slice none 0 0] 49 (0, 0)) ∧ (V6.setCell ⟨sb, 6, none⟩ (.slice A' (j + 1) c')).ownsRow v.heap.size 3 1 (.slice (some ⟨b, o, none⟩) x.giv.length c5) x.giv.length (flat encI1 (x.giv.map (·.1))) from ⟨by rw [hnx.out]; exact hSe.same (hSe.bel.setCell (by simp only; have := hsl.out; omega) _) (fun k cs t q ht => far_block q hb6 ht), by rw [hb7, hnx.out, hl1]; simp, (hpFar (by simp only; exact hne)).trans hr6, own_by h56 fun _ _ _ q => far_block q hb6 (by decide)⟩)
    have g6 : V6.cell? ⟨sb, 6, none⟩ = some (.slice AG j cG) := by have q := blkC hb6 6; simp only [hjl.out, List.getElem?_toArray, List.getElem?_cons_zero, List.getElem?_cons_succ] at q; exact q
    have g7 := blkF hb6 6; have gx := blkX hb6
    rw [hZ] at hrun
    replace hrun := Lh hrun; replace g6 := Lh g6; replace g7 := Lh g7; replace gx := Lh gx; replace hZ := Lh hZ
    clear bZ lZ hfr hgr hSe hbZ hrZ h5Z hb6 hr6 h56 hne hl1 hb7
    refine wp_region_any (by kernel_rfl) ?_
    try (change wpAny _ _ _ _ _ _ _ (World.drew _))
    refine ta 0 ?_
    refine ta 2 ?_
    refine ta 3 ?_
    refine ta 4 ?_
    refine ta 5 ?_
    refine ta 7 ?_
    refine wpAny_ready (rs := [1, 6]) (by kernel_rfl) (by simp) ?_
    refine AllReady.cons rfl (fun K hK => ?_) ?_
    ·
     have hK' := hK; clear hK; have hK := hK'; clear hK'
     try rw [← hY8.out]
     have t6 := q6.out
     go_simp
     refine hK _ _ ?_
     clear hK K t6
     refine wpAny_ready (rs := [6]) (by kernel_rfl) (by simp) ?_
     refine AllReady.cons rfl (fun K hK => ?_) ?_
     ·
      have hK' := hK; clear hK; have hK := hK'; clear hK'
      try rw [← hY8.out]
      have t5 := q5.out
      go_simp
      refine hK _ _ ?_
      clear hK K t5
      refine wpAny_ready (rs := [8]) (by kernel_rfl) (by simp) ?_
      refine AllReady.cons rfl (fun K hK => ?_) ?_
      ·
       have hK' := hK; clear hK; have hK := hK'; clear hK'
       try rw [← hY8.out]
       have tl := hlk.out
       go_simp
       refine hK _ _ ?_
       clear hK K tl
       refine ta 9 ?_
       refine wpAny_ready (rs := [10]) (by kernel_rfl) (by simp) ?_
       refine AllReady.cons rfl (fun K hK => ?_) ?_
       ·
        have hK' := hK; clear hK; have hK := hK'; clear hK'
        try rw [← hY8.out]
        go_simp
        refine hK _ _ ?_
        clear hK K
        refine wpAny_ready (rs := [11]) (by kernel_rfl) (by simp) ?_
        refine AllReady.cons rfl (fun K hK => ?_) ?_
        ·
         have hK' := hK; clear hK; have hK := hK'; clear hK'
         try rw [← hY8.out]
         have tr := hrun.out
         go_simp
         refine hK _ _ ?_
         clear hK K tr
         refine ta 12 ?_
         refine wpAny_ready (rs := [13]) (by kernel_rfl) (by simp) ?_
         refine AllReady.cons rfl (fun K hK => ?_) ?_
         ·
          have hK' := hK; clear hK; have hK := hK'; clear hK'
          have t6 := g6.out; have t7 := g7.out; have tx := gx.out
          go_simp
          refine hK _ _ ?_
          clear hK K t6 t7 tx
          refine wpAny_done (by kernel_rfl) ?_ _
          go_wp2_with (fail)
          obtain ⟨f1, f2, f3, f4⟩ := hfin.out
          exact ⟨⟨j + 1, A', c', by omega, by go_num, f1, f2, f3, f4⟩, by simp [intOf]; omega⟩
         exact AllReady.nil
        exact AllReady.nil
       exact AllReady.nil
      exact AllReady.nil
     exact AllReady.nil
    refine AllReady.cons rfl (fun K hK => ?_) ?_
    ·
     have hK' := hK; clear hK; have hK := hK'; clear hK'
     try rw [← hY8.out]
     have t5 := q5.out
     go_simp
     refine hK _ _ ?_
     clear hK K t5
     refine wpAny_ready (rs := [1, 8]) (by kernel_rfl) (by simp) ?_
     refine AllReady.cons rfl (fun K hK => ?_) ?_
     ·
      have hK' := hK; clear hK; have hK := hK'; clear hK'
      try rw [← hY8.out]
      have t6 := q6.out
      go_simp
      refine hK _ _ ?_
      clear hK K t6
      refine wpAny_ready (rs := [8]) (by kernel_rfl) (by simp) ?_
      refine AllReady.cons rfl (fun K hK => ?_) ?_
      ·
       have hK' := hK; clear hK; have hK := hK'; clear hK'
       try rw [← hY8.out]
       have tl := hlk.out
       go_simp
       refine hK _ _ ?_
       clear hK K tl
       refine ta 9 ?_
       refine wpAny_ready (rs := [10]) (by kernel_rfl) (by simp) ?_
       refine AllReady.cons rfl (fun K hK => ?_) ?_
       ·
        have hK' := hK; clear hK; have hK := hK'; clear hK'
        try rw [← hY8.out]
        go_simp
        refine hK _ _ ?_
        clear hK K
        refine wpAny_ready (rs := [11]) (by kernel_rfl) (by simp) ?_
        refine AllReady.cons rfl (fun K hK => ?_) ?_
        ·
         have hK' := hK; clear hK; have hK := hK'; clear hK'
         try rw [← hY8.out]
         have tr := hrun.out
         go_simp
         refine hK _ _ ?_
         clear hK K tr
         refine ta 12 ?_
         refine wpAny_ready (rs := [13]) (by kernel_rfl) (by simp) ?_
         refine AllReady.cons rfl (fun K hK => ?_) ?_
         ·
          have hK' := hK; clear hK; have hK := hK'; clear hK'
          have t6 := g6.out; have t7 := g7.out; have tx := gx.out
          go_simp
          refine hK _ _ ?_
          clear hK K t6 t7 tx
          refine wpAny_done (by kernel_rfl) ?_ _
          go_wp2_with (fail)
          obtain ⟨f1, f2, f3, f4⟩ := hfin.out
          exact ⟨⟨j + 1, A', c', by omega, by go_num, f1, f2, f3, f4⟩, by simp [intOf]; omega⟩
         exact AllReady.nil
        exact AllReady.nil
       exact AllReady.nil
      exact AllReady.nil
     refine AllReady.cons rfl (fun K hK => ?_) ?_
     ·
      have hK' := hK; clear hK; have hK := hK'; clear hK'
      try rw [← hY8.out]
      have tl := hlk.out
      go_simp
      refine hK _ _ ?_
      clear hK K tl
      refine ta 9 ?_
      refine wpAny_ready (rs := [1, 10]) (by kernel_rfl) (by simp) ?_
      refine AllReady.cons rfl (fun K hK => ?_) ?_
      ·
       have hK' := hK; clear hK; have hK := hK'; clear hK'
       try rw [← hY8.out]
       have t6 := q6.out
       go_simp
       refine hK _ _ ?_
       clear hK K t6
       refine wpAny_ready (rs := [10]) (by kernel_rfl) (by simp) ?_
       refine AllReady.cons rfl (fun K hK => ?_) ?_
       ·
        have hK' := hK; clear hK; have hK := hK'; clear hK'
        try rw [← hY8.out]
        go_simp
        refine hK _ _ ?_
        clear hK K
        refine wpAny_ready (rs := [11]) (by kernel_rfl) (by simp) ?_
        refine AllReady.cons rfl (fun K hK => ?_) ?_
        ·
         have hK' := hK; clear hK; have hK := hK'; clear hK'
         try rw [← hY8.out]
         have tr := hrun.out
         go_simp
         refine hK _ _ ?_
         clear hK K tr
         refine ta 12 ?_
         refine wpAny_ready (rs := [13]) (by kernel_rfl) (by simp) ?_
         refine AllReady.cons rfl (fun K hK => ?_) ?_
         ·
          have hK' := hK; clear hK; have hK := hK'; clear hK'
          have t6 := g6.out; have t7 := g7.out; have tx := gx.out
          go_simp
          refine hK _ _ ?_
          clear hK K t6 t7 tx
          refine wpAny_done (by kernel_rfl) ?_ _
          go_wp2_with (fail)
          obtain ⟨f1, f2, f3, f4⟩ := hfin.out
          exact ⟨⟨j + 1, A', c', by omega, by go_num, f1, f2, f3, f4⟩, by simp [intOf]; omega⟩
         exact AllReady.nil
        exact AllReady.nil
       exact AllReady.nil
      refine AllReady.cons rfl (fun K hK => ?_) ?_
      ·
       have hK' := hK; clear hK; have hK := hK'; clear hK'
       try rw [← hY8.out]
       go_simp
       refine hK _ _ ?_
       clear hK K
       refine wpAny_ready (rs := [1]) (by kernel_rfl) (by simp) ?_
       refine AllReady.cons rfl (fun K hK => ?_) ?_
       ·
        have hK' := hK; clear hK; have hK := hK'; clear hK'
        try rw [← hY8.out]
        have t6 : (Y8.alloc (.cells #[.int .i64 yn, .string ys] 95)).cell? ⟨sb, 6, none⟩ = some (.slice AG j cG) := (((Below.refl _ Y8).alloc (Nat.le_refl _) _).cell (p := ⟨sb, 6, none⟩) (blkX hbY.out)).trans q6.out
        go_simp
        refine hK _ _ ?_
        clear hK K t6
        refine wpAny_ready (rs := [11]) (by kernel_rfl) (by simp) ?_
        refine AllReady.cons rfl (fun K hK => ?_) ?_
        ·
         have hK' := hK; clear hK; have hK := hK'; clear hK'
         try rw [← hY8.out]
         have tr := hrun.out
         go_simp
         refine hK _ _ ?_
         clear hK K tr
         refine ta 12 ?_
         refine wpAny_ready (rs := [13]) (by kernel_rfl) (by simp) ?_
         refine AllReady.cons rfl (fun K hK => ?_) ?_
         ·
          have hK' := hK; clear hK; have hK := hK'; clear hK'
          have t6 := g6.out; have t7 := g7.out; have tx := gx.out
          go_simp
          refine hK _ _ ?_
          clear hK K t6 t7 tx
          refine wpAny_done (by kernel_rfl) ?_ _
          go_wp2_with (fail)
          obtain ⟨f1, f2, f3, f4⟩ := hfin.out
          exact ⟨⟨j + 1, A', c', by omega, by go_num, f1, f2, f3, f4⟩, by simp [intOf]; omega⟩
         exact AllReady.nil
        exact AllReady.nil
       exact AllReady.nil
      exact AllReady.nil
     exact AllReady.nil
    exact AllReady.nil
   ·
    obtain rfl : j = x.giv.length := by omega
    rw [List.take_length] at hSX hbX
    have e0 := blkC hrX 0; have u0 := blkC hbX 0
    have e1 := blkC hrX 1; have u1 := blkC hbX 1
    have e2 := blkC hrX 2; have u2 := blkC hbX 2
    have e3 := blkC hrX 3; have u3 := blkC hbX 3
    have e4 := blkC hrX 4; have u4 := blkC hbX 4
    have e5 := blkC hrX 5; have u5 := blkC hbX 5
    have e6 := blkC hrX 6; have u6 := blkC hbX 6
    have e7 := blkC hrX 7; have u7 := blkC hbX 7
    have ef := blkF hrX; have ex := blkX hrX; have ux := blkX hbX
    simp only [List.getElem?_toArray, List.getElem?_cons_zero, List.getElem?_cons_succ] at e0 u0 e1 u1 e2 u2 e3 u3 e4 u4 e5 u5 e6 u6 e7 u7
    have hfi := Lh (fun a0 a1 a2 a3 a4 a5 a6 a7 => hSX.same (sta_bel hSX.bel (Nat.le_refl _) a0 a1 a2 a3 a4 a5 a6 a7) (fun k cs t q ht => sta_far (ne_cells q hrX ht) a0 a1 a2 a3 a4 a5 a6 a7))
    clear hSX hbX hrX h5X hjl hj
    go_wp2_with (fail)
    refine bodyPost_ret (by simp [results, Tryz.results8, go_sem, *]; try with_reducible rfl) rfl ?_
    exact ⟨AR, cR, A1, c1, A2, c2, A3, c3, AG, cG, AT, cT, rfl, hfi.out _ _ _ _ _ _ _ _⟩
end Go.Proofs.YtgnjnpddehdmcaaGreatDoor
