/- The shard: effect. -/
import Derived.Test.YtgnjnpddehdmcaaGreatDoorShK
namespace Go.Proofs.YtgnjnpddehdmcaaGreatDoor
open Go.RowKit Go.Shelf
set_option linter.unusedSimpArgs false
set_option linter.unusedVariables false
set_option linter.unusedSectionVars false
set_option maxRecDepth 10000
def confB (x : Sh) (c : Cd) (ph : Int) : Bool := hasB x.mem (c.e.1, c.e.2.1, ph) && !decide (getK x.mem (c.e.1, c.e.2.1, ph) = c.key)
def phR (x : Sh) (c : Cd) : Rp := if c.e.2.2 = 1 then chgR x c else if c.e.2.2 = 2 then undoR x c else freeR x c
def phK (x : Sh) (c : Cd) : Bool := if c.e.2.2 = 1 then true else if c.e.2.2 = 2 then undoK x c else freeK x c
def phX (x : Sh) (c : Cd) : Sh := if c.e.2.2 = 1 then cntX x c else if c.e.2.2 = 2 then undoX x c else freeX x c
def needR (x : Sh) (c : Cd) : Int := if !hasB x.mem (c.e.1, c.e.2.1, 1) && decide (c.e.2.2 = 2) then 2 else 1
def anyConf (x : Sh) (c : Cd) : Bool := confB x c 1 || confB x c 2 || confB x c 3
def effR (x : Sh) (c : Cd) : Rp :=
 if hasB x.mem c.e then getR x.mem c.e else if !ownsB x c.key then (16, 0, noText) else if anyConf x c then (2, 0, noText)
 else if 2048 - (x.mem.length : Int) < needR x c then (4, 0, noText) else phR x c
def keepX (x : Sh) (c : Cd) : Sh := if phK x c then { phX x c with mem := putL 2048 (phX x c).mem ⟨c.e, c.key, phR x c⟩ } else phX x c
def effX (x : Sh) (c : Cd) : Sh :=
 if hasB x.mem c.e then x else if !ownsB x c.key then x else if anyConf x c then x
 else if 2048 - (x.mem.length : Int) < needR x c then x else keepX x c
def PhTo (base : Nat) (p : Pl) (x : Sh) (c : Cd) (v : World) (e : Ending) (w' : World) : Prop := e = .returned (repV (phR x c) (phK x c)) ∧ ∃ p', ShTo base p p' (phX x c) v w' ∧ shV p' (phX x c) = shV p x
theorem ph_1 {base : Nat} {p : Pl} {x : Sh} {v : World} (h : ShW base p x v) (c : Cd) (hk : c.key.size ≤ 140737488355328) (hd1 : -9223372036854775808 ≤ c.dl) (hd2 : c.dl ≤ 9223372036854775807) (hp : c.e.2.2 = 1) : Calls Tryz.prog 67 #[.pointer (some ⟨p.S, 0, none⟩), .agg (cdV c)] v (PhTo base p x c v) := by
 refine (shForward_any h c hk hd1 hd2).mono ?_
 rintro e w' ⟨rfl, sh⟩
 refine ⟨by unfold phR phK; rw [if_pos hp, if_pos hp]; rfl, p, ?_, ?_⟩
 ·
  unfold phX; rw [if_pos hp]; exact sh
 ·
  unfold phX; rw [if_pos hp]; rfl
theorem ph_2 {base : Nat} {p : Pl} {x : Sh} {v : World} (h : ShW base p x v) (hbv : base ≤ v.heap.size) (c : Cd) (hk : c.key.size ≤ 140737488355328) (hd1 : -9223372036854775808 ≤ c.dl) (hd2 : c.dl ≤ 9223372036854775807) (hp : c.e.2.2 = 2) : Calls Tryz.prog 68 #[.pointer (some ⟨p.S, 0, none⟩), .agg (cdV c)] v (PhTo base p x c v) := by
 refine (shUndo_any h hbv c hk hd1 hd2).mono ?_
 rintro e w' ⟨rfl, p', sh, hs⟩
 have hp1 : ¬ c.e.2.2 = 1 := by omega
 refine ⟨by unfold phR phK; rw [if_neg hp1, if_pos hp, if_neg hp1, if_pos hp], p', ?_, ?_⟩
 ·
  unfold phX; rw [if_neg hp1, if_pos hp]; exact sh
 ·
  unfold phX; rw [if_neg hp1, if_pos hp]; exact hs
theorem ph_3 {base : Nat} {p : Pl} {x : Sh} {v : World} (h : ShW base p x v) (c : Cd) (hk : c.key.size ≤ 140737488355328) (hd1 : -9223372036854775808 ≤ c.dl) (hd2 : c.dl ≤ 9223372036854775807) (hp : c.e.2.2 = 3) : Calls Tryz.prog 69 #[.pointer (some ⟨p.S, 0, none⟩), .agg (cdV c)] v (PhTo base p x c v) := by
 refine (shFree_any h c hk hd1 hd2).mono ?_
 rintro e w' ⟨rfl, sh⟩
 have hp1 : ¬ c.e.2.2 = 1 := by omega
 have hp2 : ¬ c.e.2.2 = 2 := by omega
 refine ⟨by unfold phR phK; rw [if_neg hp1, if_neg hp2, if_neg hp1, if_neg hp2], p, ?_, ?_⟩
 ·
  unfold phX; rw [if_neg hp1, if_neg hp2]; exact sh
 ·
  unfold phX; rw [if_neg hp1, if_neg hp2]; unfold freeX; split <;> rfl
attribute [-go_sem] Instr.loadAt
attribute [local go_sem] loadAt_other
set_option maxHeartbeats 16000000 in
theorem shEffect_any {base : Nat} {p : Pl} {x : Sh} {v : World} (h : ShW base p x v) (c : Cd) (hk : c.key.size ≤ 140737488355328) (hd1 : -9223372036854775808 ≤ c.dl) (hd2 : c.dl ≤ 9223372036854775807) (hbv : base ≤ v.heap.size) (hn : x.own.length ≤ 1000000) (hph : c.e.2.2 = 1 ∨ c.e.2.2 = 2 ∨ c.e.2.2 = 3) : Calls Tryz.prog 28 #[.pointer (some ⟨p.S, 0, none⟩), .agg (cdV c)] v fun e w' => e = .returned (.agg #[.int .i64 (effR x c).1, .int .i64 (effR x c).2.1, .string (effR x c).2.2]) ∧ ∃ p', ShTo base p p' (effX x c) v w' := by
 obtain ⟨fr, hfr⟩ : ∃ z, z = effR x c := ⟨_, rfl⟩
 obtain ⟨fx, hfx⟩ : ∃ z, z = effX x c := ⟨_, rfl⟩
 rw [← hfr, ← hfx]
 unfold effR at hfr; unfold effX at hfx
 replace hfr := Lh hfr; replace hfx := Lh hfx
 obtain ⟨W1, hW1⟩ : ∃ W1, W1 = ((v.alloc (.cells (cdV c) 40)).alloc (.cells #[.int .i64 0, .int .i64 0, .string ⟨#[]⟩] 52)) := ⟨_, rfl⟩
 have k1 : Below v.heap.size v W1 := by rw [hW1]; exact ((Below.refl _ v).alloc (Nat.le_refl _) _).alloc (by simp <;> omega) _
 have b0 : W1.heap[v.heap.size]? = some (.cells (cdV c) 40 (0, 0)) := by rw [hW1]; repeat (first | exact hpNewAt _ (by simp) | exact hpNew _ _ | refine (hpOld _ (by simp <;> omega)).trans ?_)
 have b1 : W1.heap[v.heap.size + 1]? = some (.cells #[.int .i64 0, .int .i64 0, .string ⟨#[]⟩] 52 (0, 0)) := by rw [hW1]; repeat (first | exact hpNewAt _ (by simp) | exact hpNew _ _ | refine (hpOld _ (by simp <;> omega)).trans ?_)
 have h1 := h.below k1
 have hSv : ∀ W' : World, Below W1.heap.size W1 W' → (fun W' : World => W'.heap[p.S]? = some (.cells (shV p x) 88 (0, 0)) ∧ W'.heap[v.heap.size]? = some (.cells (cdV c) 40 (0, 0))) W' := fun W' hb => ⟨(h1.below hb).blk, (hb.block _ (blkX b0)).trans b0⟩
 have kx := Below.refl W1.heap.size W1
 have hx0 := blkX b0
 replace h := Lh h; replace h1 := Lh h1; replace k1 := Lh k1; replace b1 := Lh b1; replace b0 := Lh b0; replace hSv := Lh hSv; replace kx := Lh kx
 go_enter Tryz.func28, Tryz.ntmps28
 go_wp2_with (fail)
 rw [← hW1]
 replace hW1 := Lh hW1
 obtain ⟨Ya, hYa⟩ : ∃ W, W = W1.drew := ⟨_, rfl⟩
 have bd : Below W1.heap.size W1 Ya := by rw [hYa]; exact (Below.refl _ _).drew
 have ky := Lh (kx.out.trans (bd.mono kx.out.size))
 obtain ⟨ra, hra⟩ : ∃ z, z = getR x.mem c.e := ⟨_, rfl⟩
 obtain ⟨fa, hfa⟩ : ∃ z, z = hasB x.mem c.e := ⟨_, rfl⟩
 have hgta := fun (W : World) (hb : Below W1.heap.size W1 W) => Get_any (h1.out.below hb).mem h1.out.ord c.e
 simp only [← hra, ← hfa] at hgta
 replace hgta := Lh hgta; replace hra := Lh hra; replace hfa := Lh hfa; replace hYa := Lh hYa
 clear bd
 apply joinArms (F := fun V ab => Found W1 52 ra V ab)
 ·
  intro hfin
  refine wp_region_held_drew (S := (fun W' : World => W'.heap[p.S]? = some (.cells (shV p x) 88 (0, 0)) ∧ W'.heap[v.heap.size]? = some (.cells (cdV c) 40 (0, 0)))) (by kernel_rfl) ?_ (fun hH => ?_)
  ·
   rw [← hYa.out]
   exact hSv.out _ ky.out
  refine tl 0 hH ?_
  refine tl 1 hH ?_
  refine tl 2 hH ?_
  refine tk (i := 3) (v := ?_) (hy := .inl ⟨by rfl, by intro w hSw; obtain ⟨sS, sC⟩ := hSw; have t0 : w.cell? ⟨p.S, 4, none⟩ = some (.pointer (some ⟨p.D, 0, none⟩)) := blkC sS 4; go_simp; first | done | with_reducible rfl⟩) (hS := hH) (h := ?_)
  refine tl 4 hH ?_
  refine tk (i := 5) (v := ?_) (hy := .inl ⟨by rfl, by intro w hSw; obtain ⟨sS, sC⟩ := hSw; have t0 : w.cell? ⟨v.heap.size, 3, none⟩ = some (.int .i64 c.e.1) := blkC sC 3; have t1 : w.cell? ⟨v.heap.size, 4, none⟩ = some (.int .i64 c.e.2.1) := blkC sC 4; have t2 : w.cell? ⟨v.heap.size, 5, none⟩ = some (.int .i64 c.e.2.2) := blkC sC 5; go_simp; first | done | with_reducible rfl⟩) (hS := hH) (h := ?_)
  refine wpAnyH_ready (rs := [6, 10]) (by kernel_rfl) (by simp) ?_
  refine AllReadyH.cons rfl (fun K hK => ?_) ?_
  ·
   clear hH
   try rw [← hYa.out]
   go_simp
   refine (hgta.out _ ky.out).mono ?_
   rintro e Ya_6 ⟨rfl, bb⟩
   have kYa_6 := Lh (ky.out.trans (bb.mono ky.out.size))
   clear bb
   refine hK.out _ _ (hSv.out _ kYa_6.out) (fun hH => ?_)
   clear hK K
   refine tl 7 hH ?_
   refine tl 8 hH ?_
   refine tl 9 hH ?_
   refine wpAnyH_ready (rs := [10]) (by kernel_rfl) (by simp) ?_
   refine AllReadyH.cons rfl (fun K hK => ?_) ?_
   ·
    clear hH
    go_simp
    obtain ⟨Ya_6_10, hVV⟩ : ∃ Z, Z = Ya_6.alloc (.cells #[.int .i64 0, .int .i64 0, .string ⟨#[]⟩] 52) := ⟨_, rfl⟩
    have bb : Below Ya_6.heap.size Ya_6 Ya_6_10 := by rw [hVV]; exact (Below.refl _ _).alloc (Nat.le_refl _) _
    obtain ⟨ab, hab⟩ : ∃ n, n = Ya_6.heap.size := ⟨_, rfl⟩
    have qaYa_6_10 := Lh (show Ya_6_10.heap[ab]? = some (.cells #[.int .i64 0, .int .i64 0, .string ⟨#[]⟩] 52 (0, 0)) from by rw [hVV, hab]; exact hpNew _ _)
    have hga := Lh (show W1.heap.size ≤ ab from by rw [hab]; exact kYa_6.out.size)
    have kYa_6_10 := Lh (kYa_6.out.trans (bb.mono kYa_6.out.size))
    clear bb
    rw [← hVV, ← hab]
    replace hVV := Lh hVV; replace hab := Lh hab
    refine hK.out _ _ (hSv.out _ kYa_6_10.out) (fun hH => ?_)
    clear hK K
    refine wpAnyH_ready (rs := [11]) (by kernel_rfl) (by simp) ?_
    refine AllReadyH.cons rfl (fun K hK => ?_) ?_
    ·
     clear hH
     have e0 := blkC qaYa_6_10.out 0; have e1 := blkC qaYa_6_10.out 1; have e2 := blkC qaYa_6_10.out 2; have ef := blkF qaYa_6_10.out; have ex := blkX qaYa_6_10.out
     simp only [List.getElem?_toArray, List.getElem?_cons_zero, List.getElem?_cons_succ] at e0 e1 e2
     go_simp
     have hfd := found_store kYa_6_10.out hga.out qaYa_6_10.out rfl ra
     generalize hV9 : ((Ya_6_10.setCell ⟨ab, 0, none⟩ (.int .i64 ra.1)).setCell ⟨ab, 1, none⟩ (.int .i64 ra.2.1)).setCell ⟨ab, 2, none⟩ (.string ra.2.2) = V9 at hfd ⊢
     refine hK.out _ _ (hSv.out _ hfd.bel) (fun hH => ?_)
     clear hK K e0 e1 e2 ef ex
     refine tl 12 hH ?_
     refine wpAnyH_done (by kernel_rfl) ?_ _
     clear hH
     exact hfin _ _ hfd
    exact AllReadyH.nil
   exact AllReadyH.nil
  refine AllReadyH.cons rfl (fun K hK => ?_) ?_
  ·
   clear hH
   try rw [← hYa.out]
   go_simp
   obtain ⟨Ya_10, hVV⟩ : ∃ Z, Z = Ya.alloc (.cells #[.int .i64 0, .int .i64 0, .string ⟨#[]⟩] 52) := ⟨_, rfl⟩
   have bb : Below Ya.heap.size Ya Ya_10 := by rw [hVV]; exact (Below.refl _ _).alloc (Nat.le_refl _) _
   obtain ⟨ab, hab⟩ : ∃ n, n = Ya.heap.size := ⟨_, rfl⟩
   have qaYa_10 := Lh (show Ya_10.heap[ab]? = some (.cells #[.int .i64 0, .int .i64 0, .string ⟨#[]⟩] 52 (0, 0)) from by rw [hVV, hab]; exact hpNew _ _)
   have hga := Lh (show W1.heap.size ≤ ab from by rw [hab]; exact ky.out.size)
   have kYa_10 := Lh (ky.out.trans (bb.mono ky.out.size))
   clear bb
   rw [← hVV, ← hab]
   replace hVV := Lh hVV; replace hab := Lh hab
   refine hK.out _ _ (hSv.out _ kYa_10.out) (fun hH => ?_)
   clear hK K
   refine wpAnyH_ready (rs := [6]) (by kernel_rfl) (by simp) ?_
   refine AllReadyH.cons rfl (fun K hK => ?_) ?_
   ·
    clear hH
    go_simp
    refine (hgta.out _ kYa_10.out).mono ?_
    rintro e Ya_6_10 ⟨rfl, bb⟩
    have kYa_6_10 := Lh (kYa_10.out.trans (bb.mono kYa_10.out.size))
    have qaYa_6_10 := Lh ((bb.block _ (blkX qaYa_10.out)).trans qaYa_10.out)
    clear bb
    refine hK.out _ _ (hSv.out _ kYa_6_10.out) (fun hH => ?_)
    clear hK K
    refine tl 7 hH ?_
    refine tl 8 hH ?_
    refine tl 9 hH ?_
    refine wpAnyH_ready (rs := [11]) (by kernel_rfl) (by simp) ?_
    refine AllReadyH.cons rfl (fun K hK => ?_) ?_
    ·
     clear hH
     have e0 := blkC qaYa_6_10.out 0; have e1 := blkC qaYa_6_10.out 1; have e2 := blkC qaYa_6_10.out 2; have ef := blkF qaYa_6_10.out; have ex := blkX qaYa_6_10.out
     simp only [List.getElem?_toArray, List.getElem?_cons_zero, List.getElem?_cons_succ] at e0 e1 e2
     go_simp
     have hfd := found_store kYa_6_10.out hga.out qaYa_6_10.out rfl ra
     generalize hV9 : ((Ya_6_10.setCell ⟨ab, 0, none⟩ (.int .i64 ra.1)).setCell ⟨ab, 1, none⟩ (.int .i64 ra.2.1)).setCell ⟨ab, 2, none⟩ (.string ra.2.2) = V9 at hfd ⊢
     refine hK.out _ _ (hSv.out _ hfd.bel) (fun hH => ?_)
     clear hK K e0 e1 e2 ef ex
     refine tl 12 hH ?_
     refine wpAnyH_done (by kernel_rfl) ?_ _
     clear hH
     exact hfin _ _ hfd
    exact AllReadyH.nil
   exact AllReadyH.nil
  exact AllReadyH.nil
 ·
  rintro V1 a1 hfda
  have kx := Lh hfda.bel
  cases fa with
  | true =>
   have e1 : fr = ra := by rw [hfr.out, ← hfa.out, ← hra.out]; simp
   have e3 : fx = x := by rw [hfx.out, ← hfa.out]; simp
   subst e1; subst e3
   have qa := hfda.blk
   have z0 := blkC qa 0; have z1 := blkC qa 1; have z2 := blkC qa 2; have zx := blkX qa
   simp only [List.getElem?_toArray, List.getElem?_cons_zero, List.getElem?_cons_succ] at z0 z1 z2
   replace qa := Lh qa
   have e1 := (kx.out.block _ (blkX b1.out)).trans b1.out
   have s0 := blkC e1 0
   have s1 := blkC e1 1
   have s2 := blkC e1 2
   have sf := blkF e1; have sx := blkX e1
   simp only [List.getElem?_toArray, List.getElem?_cons_zero, List.getElem?_cons_succ] at s0 s1 s2
   replace e1 := Lh e1
   go_wp2_with (fail)
   refine bodyPost_ret (by simp [results, Tryz.results28, go_sem, *]; try with_reducible rfl) rfl ?_
   exact ⟨rfl, p, (ShTo.set (ShTo.set (ShTo.set (ShTo.below h.out (k1.out.trans (kx.out.mono k1.out.size))) (a := ⟨v.heap.size + 1, 0, none⟩) (by simp only; omega) (h.out.out (by simp only; omega)) _) (a := ⟨v.heap.size + 1, 1, none⟩) (by simp only; omega) (h.out.out (by simp only; omega)) _) (a := ⟨v.heap.size + 1, 2, none⟩) (by simp only; omega) (h.out.out (by simp only; omega)) _)⟩
  | false =>
   have ho := shOwns_any (h1.out.below kx.out) hn c.key hk
   have b0v := (kx.out.block _ (blkX b0.out)).trans b0.out
   have z6 : V1.cell? ⟨v.heap.size, 6, none⟩ = some (.string c.key) := blkC b0v 6
   have hxv := blkX b0v
   replace b0v := Lh b0v
   go_wp2_with (fail)
   refine ho.mono ?_
   rintro e V2 ⟨rfl, b2⟩
   have kx2 := Lh (kx.out.trans (b2.mono kx.out.size))
   clear b2 ho z6 hxv kx
   have kx := kx2
   clear kx2
   cases how : ownsB x c.key with
   | false =>
    have e1 : fr = (16, 0, noText) := by rw [hfr.out, ← hfa.out, how]; simp
    have e3 : fx = x := by rw [hfx.out, ← hfa.out, how]; simp
    subst e1; subst e3
    go_wp2_with (fail)
    refine (refused_any 16 _).mono ?_
    rintro e V8 ⟨rfl, b8⟩
    have k8 := Lh (kx.out.trans (b8.mono kx.out.size))
    have e1 := (k8.out.block _ (blkX b1.out)).trans b1.out
    have s0 := blkC e1 0
    have s1 := blkC e1 1
    have s2 := blkC e1 2
    have sf := blkF e1; have sx := blkX e1
    simp only [List.getElem?_toArray, List.getElem?_cons_zero, List.getElem?_cons_succ] at s0 s1 s2
    replace e1 := Lh e1
    clear b8
    go_wp2_with (fail)
    refine bodyPost_ret (by simp [results, Tryz.results28, go_sem, *]; try with_reducible rfl) rfl ?_
    exact ⟨rfl, p, (ShTo.set (ShTo.set (ShTo.set (ShTo.below h.out (k1.out.trans (k8.out.mono k1.out.size))) (a := ⟨v.heap.size + 1, 0, none⟩) (by simp only; omega) (h.out.out (by simp only; omega)) _) (a := ⟨v.heap.size + 1, 1, none⟩) (by simp only; omega) (h.out.out (by simp only; omega)) _) (a := ⟨v.heap.size + 1, 2, none⟩) (by simp only; omega) (h.out.out (by simp only; omega)) _)⟩
   | true =>
    go_wp2_with (fail)
    go_loopw [7] (fun i wr => ∃ j : Nat, 1 ≤ j ∧ j ≤ 4 ∧ i = .int .i64 j ∧ (∀ q : Nat, 1 ≤ q → q < j → confB x c q = false) ∧ Below W1.heap.size W1 wr) (fun i _ => 4 - (intOf i).toNat)
    case atStart => exact ⟨1, by omega, by omega, rfl, fun q h1 h2 => by omega, kx.out⟩
    case round =>
     clear kx
     revert wr
     intro X hrel
     obtain ⟨j, hj1, hj4, rfl, hcf, kx⟩ := hrel
     by_cases hlt : j ≤ 3
     ·
      skip
      have j1 : (j : Int) ≤ 3 := by omega
      have j0 : (0 : Int) ≤ j := by omega
      obtain ⟨kk, hkk⟩ : ∃ z, z = getK x.mem (c.e.1, c.e.2.1, (j : Int)) := ⟨_, rfl⟩
      obtain ⟨hb, hhb⟩ : ∃ z, z = hasB x.mem (c.e.1, c.e.2.1, (j : Int)) := ⟨_, rfl⟩
      have hky := fun (W : World) (hb : Below W1.heap.size W1 W) => Key_any (h1.out.below hb).mem h1.out.ord (c.e.1, c.e.2.1, (j : Int))
      simp only [← hkk, ← hhb] at hky
      have hcj : confB x c j = (hb && !decide (kk = c.key)) := by unfold confB; rw [hkk, hhb]
      have hq := tl_eq kk c.key
      replace hky := Lh hky; replace hcf := Lh hcf; replace kx := Lh kx; replace hcj := Lh hcj; replace hkk := Lh hkk; replace hhb := Lh hhb
      go_wp2_with (fail)
      obtain ⟨Yd, hYd⟩ : ∃ W, W = X.drew := ⟨_, rfl⟩
      have bd : Below X.heap.size X Yd := by rw [hYd]; exact (Below.refl _ _).drew
      have kd := Lh (kx.out.trans (bd.mono kx.out.size))
      clear bd
      replace hYd := Lh hYd
      refine wp_region_held_drew (S := (fun W' : World => W'.heap[p.S]? = some (.cells (shV p x) 88 (0, 0)) ∧ W'.heap[v.heap.size]? = some (.cells (cdV c) 40 (0, 0)))) (by kernel_rfl) ?_ (fun hH => ?_)
      ·
       rw [← hYd.out]
       exact hSv.out _ kd.out
      refine tl 0 hH ?_
      refine tl 1 hH ?_
      refine tl 2 hH ?_
      refine tk (i := 3) (v := ?_) (hy := .inl ⟨by rfl, by intro w hSw; obtain ⟨sS, sC⟩ := hSw; have t0 : w.cell? ⟨p.S, 4, none⟩ = some (.pointer (some ⟨p.D, 0, none⟩)) := blkC sS 4; go_simp; first | done | with_reducible rfl⟩) (hS := hH) (h := ?_)
      refine tl 4 hH ?_
      refine tk (i := 5) (v := ?_) (hy := .inl ⟨by rfl, by intro w hSw; obtain ⟨sS, sC⟩ := hSw; have t0 : w.cell? ⟨v.heap.size, 3, none⟩ = some (.int .i64 c.e.1) := blkC sC 3; have t1 : w.cell? ⟨v.heap.size, 4, none⟩ = some (.int .i64 c.e.2.1) := blkC sC 4; have t2 : w.cell? ⟨v.heap.size, 5, none⟩ = some (.int .i64 c.e.2.2) := blkC sC 5; go_simp; first | done | with_reducible rfl⟩) (hS := hH) (h := ?_)
      refine tl 6 hH ?_
      refine wpAnyH_ready (rs := [7]) (by kernel_rfl) (by simp) ?_
      refine AllReadyH.cons rfl (fun K hK => ?_) ?_
      ·
       clear hH
       rw [← hYd.out]
       go_simp
       refine (of_any c.e j _).mono ?_
       rintro e Z1 ⟨rfl, bb⟩
       have kz1 := Lh (kd.out.trans (bb.mono kd.out.size))
       clear bb
       refine hK.out _ _ (hSv.out _ kz1.out) (fun hH => ?_)
       clear hK K
       refine wpAnyH_ready (rs := [8]) (by kernel_rfl) (by simp) ?_
       refine AllReadyH.cons rfl (fun K hK => ?_) ?_
       ·
        clear hH
        go_simp
        refine (hky.out _ kz1.out).mono ?_
        rintro e Z2 ⟨rfl, bb⟩
        have kz2 := Lh (kz1.out.trans (bb.mono kz1.out.size))
        clear bb
        refine hK.out _ _ (hSv.out _ kz2.out) (fun hH => ?_)
        clear hK K
        refine tl 9 hH ?_
        refine tl 10 hH ?_
        refine tl 11 hH ?_
        refine tl 12 hH ?_
        refine tl 13 hH ?_
        refine wpAnyH_done (by kernel_rfl) ?_ _
        clear hH
        have g0 := (kz2.out.block _ (blkX b0.out)).trans b0.out
        have z6 : Z2.cell? ⟨v.heap.size, 6, none⟩ = some (.string c.key) := blkC g0 6
        have xz := blkX g0
        replace g0 := Lh g0
        have hnext : Hid (confB x c j = false → ∀ q : Nat, 1 ≤ q → q < j + 1 → confB x c q = false) := Lh (fun hc q h1 h2 => by
         rcases (show q < j ∨ q = j by omega) with h3 | rfl
         ·
          exact hcf.out q h1 h3
         ·
          exact hc)
        cases hb with
        | false =>
         have hc : Hid (confB x c j = false) := Lh (by rw [hcj.out]; rfl)
         go_wp2_with (fail)
         exact ⟨⟨j + 1, by omega, by omega, by go_num, hnext.out hc.out, kz2.out⟩, by simp [intOf]; omega⟩
        | true =>
         by_cases hkq : kk = c.key
         ·
          have hc : Hid (confB x c j = false) := Lh (by rw [hcj.out]; simp [hkq])
          rw [decide_eq_true hkq] at hq
          replace hkq := Lh hkq
          go_wp2_with (fail)
          exact ⟨⟨j + 1, by omega, by omega, by go_num, hnext.out hc.out, kz2.out⟩, by simp [intOf]; omega⟩
         ·
          have hc : Hid (confB x c j = true) := Lh (by rw [hcj.out]; simp [hkq])
          rw [decide_eq_false hkq] at hq
          replace hkq := Lh hkq
          have hac : anyConf x c = true := by
           unfold anyConf
           have : j = 1 ∨ j = 2 ∨ j = 3 := by omega
           have hc' := hc.out
           rcases this with rfl | rfl | rfl
           ·
            rw [show confB x c 1 = true from hc']; rfl
           ·
            rw [show confB x c 2 = true from hc', Bool.or_true]; rfl
           ·
            rw [show confB x c 3 = true from hc', Bool.or_true]
          have e1 : fr = (2, 0, noText) := by rw [hfr.out, ← hfa.out, how, hac]; simp
          have e3 : fx = x := by rw [hfx.out, ← hfa.out, how, hac]; simp
          subst e1; subst e3
          replace hac := Lh hac
          go_wp2_with (fail)
          refine (refused_any 2 _).mono ?_
          rintro e V8 ⟨rfl, b8⟩
          have k8 := Lh (kz2.out.trans (b8.mono kz2.out.size))
          have e1 := (k8.out.block _ (blkX b1.out)).trans b1.out
          have s0 := blkC e1 0
          have s1 := blkC e1 1
          have s2 := blkC e1 2
          have sf := blkF e1; have sx := blkX e1
          simp only [List.getElem?_toArray, List.getElem?_cons_zero, List.getElem?_cons_succ] at s0 s1 s2
          replace e1 := Lh e1
          clear b8
          go_wp2_with (fail)
          refine bodyPost_ret (by simp [results, Tryz.results28, go_sem, *]; try with_reducible rfl) rfl ?_
          exact ⟨rfl, p, (ShTo.set (ShTo.set (ShTo.set (ShTo.below h.out (k1.out.trans (k8.out.mono k1.out.size))) (a := ⟨v.heap.size + 1, 0, none⟩) (by simp only; omega) (h.out.out (by simp only; omega)) _) (a := ⟨v.heap.size + 1, 1, none⟩) (by simp only; omega) (h.out.out (by simp only; omega)) _) (a := ⟨v.heap.size + 1, 2, none⟩) (by simp only; omega) (h.out.out (by simp only; omega)) _)⟩
       exact AllReadyH.nil
      exact AllReadyH.nil
     ·
      have hnc : anyConf x c = false := by
       unfold anyConf
       rw [show confB x c 1 = false from hcf 1 (by omega) (by omega), show confB x c 2 = false from hcf 2 (by omega) (by omega), show confB x c 3 = false from hcf 3 (by omega) (by omega)]; rfl
      obtain rfl : j = 4 := by omega
      clear hcf hlt hj1 hj4
      replace kx := Lh kx
      go_wp2_with (fail)
      obtain ⟨Yb, hYb⟩ : ∃ W, W = X.drew := ⟨_, rfl⟩
      have bd : Below X.heap.size X Yb := by rw [hYb]; exact (Below.refl _ _).drew
      have ky := Lh (kx.out.trans (bd.mono kx.out.size))
      obtain ⟨rb, hrb⟩ : ∃ z, z = getR x.mem (c.e.1, c.e.2.1, 1) := ⟨_, rfl⟩
      obtain ⟨fb, hfb⟩ : ∃ z, z = hasB x.mem (c.e.1, c.e.2.1, 1) := ⟨_, rfl⟩
      have hgtb := fun (W : World) (hb : Below W1.heap.size W1 W) => Get_any (h1.out.below hb).mem h1.out.ord (c.e.1, c.e.2.1, 1)
      simp only [← hrb, ← hfb] at hgtb
      replace hgtb := Lh hgtb; replace hrb := Lh hrb; replace hfb := Lh hfb; replace hYb := Lh hYb
      clear bd
      apply joinArms (F := fun V ab => Found W1 52 rb V ab)
      ·
       intro hfin
       refine wp_region_held_drew (S := (fun W' : World => W'.heap[p.S]? = some (.cells (shV p x) 88 (0, 0)) ∧ W'.heap[v.heap.size]? = some (.cells (cdV c) 40 (0, 0)))) (by kernel_rfl) ?_ (fun hH => ?_)
       ·
        rw [← hYb.out]
        exact hSv.out _ ky.out
       refine tl 0 hH ?_
       refine tl 1 hH ?_
       refine tl 2 hH ?_
       refine tk (i := 3) (v := ?_) (hy := .inl ⟨by rfl, by intro w hSw; obtain ⟨sS, sC⟩ := hSw; have t0 : w.cell? ⟨p.S, 4, none⟩ = some (.pointer (some ⟨p.D, 0, none⟩)) := blkC sS 4; go_simp; first | done | with_reducible rfl⟩) (hS := hH) (h := ?_)
       refine tl 4 hH ?_
       refine tk (i := 5) (v := ?_) (hy := .inl ⟨by rfl, by intro w hSw; obtain ⟨sS, sC⟩ := hSw; have t0 : w.cell? ⟨v.heap.size, 3, none⟩ = some (.int .i64 c.e.1) := blkC sC 3; have t1 : w.cell? ⟨v.heap.size, 4, none⟩ = some (.int .i64 c.e.2.1) := blkC sC 4; have t2 : w.cell? ⟨v.heap.size, 5, none⟩ = some (.int .i64 c.e.2.2) := blkC sC 5; go_simp; first | done | with_reducible rfl⟩) (hS := hH) (h := ?_)
       refine wpAnyH_ready (rs := [6, 11]) (by kernel_rfl) (by simp) ?_
       refine AllReadyH.cons rfl (fun K hK => ?_) ?_
       ·
        clear hH
        try rw [← hYb.out]
        go_simp
        refine (of_any c.e 1 _).mono ?_
        rintro e Yb_6 ⟨rfl, bb⟩
        have kYb_6 := Lh (ky.out.trans (bb.mono ky.out.size))
        clear bb
        refine hK.out _ _ (hSv.out _ kYb_6.out) (fun hH => ?_)
        clear hK K
        refine wpAnyH_ready (rs := [7, 11]) (by kernel_rfl) (by simp) ?_
        refine AllReadyH.cons rfl (fun K hK => ?_) ?_
        ·
         clear hH
         go_simp
         refine (hgtb.out _ kYb_6.out).mono ?_
         rintro e Yb_6_7 ⟨rfl, bb⟩
         have kYb_6_7 := Lh (kYb_6.out.trans (bb.mono kYb_6.out.size))
         clear bb
         refine hK.out _ _ (hSv.out _ kYb_6_7.out) (fun hH => ?_)
         clear hK K
         refine tl 8 hH ?_
         refine tl 9 hH ?_
         refine tl 10 hH ?_
         refine wpAnyH_ready (rs := [11]) (by kernel_rfl) (by simp) ?_
         refine AllReadyH.cons rfl (fun K hK => ?_) ?_
         ·
          clear hH
          go_simp
          obtain ⟨Yb_6_7_11, hVV⟩ : ∃ Z, Z = Yb_6_7.alloc (.cells #[.int .i64 0, .int .i64 0, .string ⟨#[]⟩] 52) := ⟨_, rfl⟩
          have bb : Below Yb_6_7.heap.size Yb_6_7 Yb_6_7_11 := by rw [hVV]; exact (Below.refl _ _).alloc (Nat.le_refl _) _
          obtain ⟨ab, hab⟩ : ∃ n, n = Yb_6_7.heap.size := ⟨_, rfl⟩
          have qaYb_6_7_11 := Lh (show Yb_6_7_11.heap[ab]? = some (.cells #[.int .i64 0, .int .i64 0, .string ⟨#[]⟩] 52 (0, 0)) from by rw [hVV, hab]; exact hpNew _ _)
          have hga := Lh (show W1.heap.size ≤ ab from by rw [hab]; exact kYb_6_7.out.size)
          have kYb_6_7_11 := Lh (kYb_6_7.out.trans (bb.mono kYb_6_7.out.size))
          clear bb
          rw [← hVV, ← hab]
          replace hVV := Lh hVV; replace hab := Lh hab
          refine hK.out _ _ (hSv.out _ kYb_6_7_11.out) (fun hH => ?_)
          clear hK K
          refine wpAnyH_ready (rs := [12]) (by kernel_rfl) (by simp) ?_
          refine AllReadyH.cons rfl (fun K hK => ?_) ?_
          ·
           clear hH
           have e0 := blkC qaYb_6_7_11.out 0; have e1 := blkC qaYb_6_7_11.out 1; have e2 := blkC qaYb_6_7_11.out 2; have ef := blkF qaYb_6_7_11.out; have ex := blkX qaYb_6_7_11.out
           simp only [List.getElem?_toArray, List.getElem?_cons_zero, List.getElem?_cons_succ] at e0 e1 e2
           go_simp
           have hfd := found_store kYb_6_7_11.out hga.out qaYb_6_7_11.out rfl rb
           generalize hV9 : ((Yb_6_7_11.setCell ⟨ab, 0, none⟩ (.int .i64 rb.1)).setCell ⟨ab, 1, none⟩ (.int .i64 rb.2.1)).setCell ⟨ab, 2, none⟩ (.string rb.2.2) = V9 at hfd ⊢
           refine hK.out _ _ (hSv.out _ hfd.bel) (fun hH => ?_)
           clear hK K e0 e1 e2 ef ex
           refine tl 13 hH ?_
           refine wpAnyH_done (by kernel_rfl) ?_ _
           clear hH
           exact hfin _ _ hfd
          exact AllReadyH.nil
         exact AllReadyH.nil
        refine AllReadyH.cons rfl (fun K hK => ?_) ?_
        ·
         clear hH
         go_simp
         obtain ⟨Yb_6_11, hVV⟩ : ∃ Z, Z = Yb_6.alloc (.cells #[.int .i64 0, .int .i64 0, .string ⟨#[]⟩] 52) := ⟨_, rfl⟩
         have bb : Below Yb_6.heap.size Yb_6 Yb_6_11 := by rw [hVV]; exact (Below.refl _ _).alloc (Nat.le_refl _) _
         obtain ⟨ab, hab⟩ : ∃ n, n = Yb_6.heap.size := ⟨_, rfl⟩
         have qaYb_6_11 := Lh (show Yb_6_11.heap[ab]? = some (.cells #[.int .i64 0, .int .i64 0, .string ⟨#[]⟩] 52 (0, 0)) from by rw [hVV, hab]; exact hpNew _ _)
         have hga := Lh (show W1.heap.size ≤ ab from by rw [hab]; exact kYb_6.out.size)
         have kYb_6_11 := Lh (kYb_6.out.trans (bb.mono kYb_6.out.size))
         clear bb
         rw [← hVV, ← hab]
         replace hVV := Lh hVV; replace hab := Lh hab
         refine hK.out _ _ (hSv.out _ kYb_6_11.out) (fun hH => ?_)
         clear hK K
         refine wpAnyH_ready (rs := [7]) (by kernel_rfl) (by simp) ?_
         refine AllReadyH.cons rfl (fun K hK => ?_) ?_
         ·
          clear hH
          go_simp
          refine (hgtb.out _ kYb_6_11.out).mono ?_
          rintro e Yb_6_7_11 ⟨rfl, bb⟩
          have kYb_6_7_11 := Lh (kYb_6_11.out.trans (bb.mono kYb_6_11.out.size))
          have qaYb_6_7_11 := Lh ((bb.block _ (blkX qaYb_6_11.out)).trans qaYb_6_11.out)
          clear bb
          refine hK.out _ _ (hSv.out _ kYb_6_7_11.out) (fun hH => ?_)
          clear hK K
          refine tl 8 hH ?_
          refine tl 9 hH ?_
          refine tl 10 hH ?_
          refine wpAnyH_ready (rs := [12]) (by kernel_rfl) (by simp) ?_
          refine AllReadyH.cons rfl (fun K hK => ?_) ?_
          ·
           clear hH
           have e0 := blkC qaYb_6_7_11.out 0; have e1 := blkC qaYb_6_7_11.out 1; have e2 := blkC qaYb_6_7_11.out 2; have ef := blkF qaYb_6_7_11.out; have ex := blkX qaYb_6_7_11.out
           simp only [List.getElem?_toArray, List.getElem?_cons_zero, List.getElem?_cons_succ] at e0 e1 e2
           go_simp
           have hfd := found_store kYb_6_7_11.out hga.out qaYb_6_7_11.out rfl rb
           generalize hV9 : ((Yb_6_7_11.setCell ⟨ab, 0, none⟩ (.int .i64 rb.1)).setCell ⟨ab, 1, none⟩ (.int .i64 rb.2.1)).setCell ⟨ab, 2, none⟩ (.string rb.2.2) = V9 at hfd ⊢
           refine hK.out _ _ (hSv.out _ hfd.bel) (fun hH => ?_)
           clear hK K e0 e1 e2 ef ex
           refine tl 13 hH ?_
           refine wpAnyH_done (by kernel_rfl) ?_ _
           clear hH
           exact hfin _ _ hfd
          exact AllReadyH.nil
         exact AllReadyH.nil
        exact AllReadyH.nil
       refine AllReadyH.cons rfl (fun K hK => ?_) ?_
       ·
        clear hH
        try rw [← hYb.out]
        go_simp
        obtain ⟨Yb_11, hVV⟩ : ∃ Z, Z = Yb.alloc (.cells #[.int .i64 0, .int .i64 0, .string ⟨#[]⟩] 52) := ⟨_, rfl⟩
        have bb : Below Yb.heap.size Yb Yb_11 := by rw [hVV]; exact (Below.refl _ _).alloc (Nat.le_refl _) _
        obtain ⟨ab, hab⟩ : ∃ n, n = Yb.heap.size := ⟨_, rfl⟩
        have qaYb_11 := Lh (show Yb_11.heap[ab]? = some (.cells #[.int .i64 0, .int .i64 0, .string ⟨#[]⟩] 52 (0, 0)) from by rw [hVV, hab]; exact hpNew _ _)
        have hga := Lh (show W1.heap.size ≤ ab from by rw [hab]; exact ky.out.size)
        have kYb_11 := Lh (ky.out.trans (bb.mono ky.out.size))
        clear bb
        rw [← hVV, ← hab]
        replace hVV := Lh hVV; replace hab := Lh hab
        refine hK.out _ _ (hSv.out _ kYb_11.out) (fun hH => ?_)
        clear hK K
        refine wpAnyH_ready (rs := [6]) (by kernel_rfl) (by simp) ?_
        refine AllReadyH.cons rfl (fun K hK => ?_) ?_
        ·
         clear hH
         go_simp
         refine (of_any c.e 1 _).mono ?_
         rintro e Yb_6_11 ⟨rfl, bb⟩
         have kYb_6_11 := Lh (kYb_11.out.trans (bb.mono kYb_11.out.size))
         have qaYb_6_11 := Lh ((bb.block _ (blkX qaYb_11.out)).trans qaYb_11.out)
         clear bb
         refine hK.out _ _ (hSv.out _ kYb_6_11.out) (fun hH => ?_)
         clear hK K
         refine wpAnyH_ready (rs := [7]) (by kernel_rfl) (by simp) ?_
         refine AllReadyH.cons rfl (fun K hK => ?_) ?_
         ·
          clear hH
          go_simp
          refine (hgtb.out _ kYb_6_11.out).mono ?_
          rintro e Yb_6_7_11 ⟨rfl, bb⟩
          have kYb_6_7_11 := Lh (kYb_6_11.out.trans (bb.mono kYb_6_11.out.size))
          have qaYb_6_7_11 := Lh ((bb.block _ (blkX qaYb_6_11.out)).trans qaYb_6_11.out)
          clear bb
          refine hK.out _ _ (hSv.out _ kYb_6_7_11.out) (fun hH => ?_)
          clear hK K
          refine tl 8 hH ?_
          refine tl 9 hH ?_
          refine tl 10 hH ?_
          refine wpAnyH_ready (rs := [12]) (by kernel_rfl) (by simp) ?_
          refine AllReadyH.cons rfl (fun K hK => ?_) ?_
          ·
           clear hH
           have e0 := blkC qaYb_6_7_11.out 0; have e1 := blkC qaYb_6_7_11.out 1; have e2 := blkC qaYb_6_7_11.out 2; have ef := blkF qaYb_6_7_11.out; have ex := blkX qaYb_6_7_11.out
           simp only [List.getElem?_toArray, List.getElem?_cons_zero, List.getElem?_cons_succ] at e0 e1 e2
           go_simp
           have hfd := found_store kYb_6_7_11.out hga.out qaYb_6_7_11.out rfl rb
           generalize hV9 : ((Yb_6_7_11.setCell ⟨ab, 0, none⟩ (.int .i64 rb.1)).setCell ⟨ab, 1, none⟩ (.int .i64 rb.2.1)).setCell ⟨ab, 2, none⟩ (.string rb.2.2) = V9 at hfd ⊢
           refine hK.out _ _ (hSv.out _ hfd.bel) (fun hH => ?_)
           clear hK K e0 e1 e2 ef ex
           refine tl 13 hH ?_
           refine wpAnyH_done (by kernel_rfl) ?_ _
           clear hH
           exact hfin _ _ hfd
          exact AllReadyH.nil
         exact AllReadyH.nil
        exact AllReadyH.nil
       exact AllReadyH.nil
      ·
       rintro V3 a3 hfdb
       have kx3 := Lh hfdb.bel
       clear kx
       have kx := kx3
       clear kx3
       have b0w := (kx.out.block _ (blkX b0.out)).trans b0.out
       have z5 : V3.cell? ⟨v.heap.size, 5, none⟩ = some (.int .i64 c.e.2.2) := blkC b0w 5
       have z4 : V3.cell? ⟨v.heap.size, 4, none⟩ = some (.int .i64 c.e.2.1) := blkC b0w 4
       have z3 : V3.cell? ⟨v.heap.size, 3, none⟩ = some (.int .i64 c.e.1) := blkC b0w 3
       have hxw := blkX b0w
       replace b0w := Lh b0w
       have hrm := fun (W : World) (hb : Below W1.heap.size W1 W) => room_any (h1.out.below hb).mem (by omega)
       obtain ⟨ml, hml⟩ : ∃ n, n = x.mem.length := ⟨_, rfl⟩
       rw [← hml] at hrm
       have hmle : ml ≤ 2048 := by rw [hml]; have := h.out.mem.le; omega
       replace hrm := Lh hrm
       have c4 : V3.cell? ⟨p.S, 4, none⟩ = some (.pointer (some ⟨p.D, 0, none⟩)) := blkC (h1.out.below kx.out).blk 4
       have hlt3 := (h1.out.below kx.out).lt
       have hgx : ∃ g : Nat, (#[Value.nilFunc, .func (.func 67) #[] #[], .func (.func 68) #[] #[], .func (.func 69) #[] #[]] : Array Value)[c.e.2.2.toNat]? = some (.func (.func g) #[] #[]) ∧ (∀ args w, (callFunc g args).run Tryz.prog w = .ok (.enter g args) w) ∧ ∀ W, Below W1.heap.size W1 W → Calls Tryz.prog g #[.pointer (some ⟨p.S, 0, none⟩), .agg (cdV c)] W (PhTo base p x c W) := by
        rcases hph with hp | hp | hp
        ·
         exact ⟨67, by rw [hp]; rfl, enters_of Tryz.func67 (by kernel_rfl) rfl, fun W hb => ph_1 (h1.out.below hb) c hk hd1 hd2 hp⟩
        ·
         exact ⟨68, by rw [hp]; rfl, enters_of Tryz.func68 (by kernel_rfl) rfl, fun W hb => ph_2 (h1.out.below hb) (Nat.le_trans hbv (k1.out.trans (hb.mono k1.out.size)).size) c hk hd1 hd2 hp⟩
        ·
         exact ⟨69, by rw [hp]; rfl, enters_of Tryz.func69 (by kernel_rfl) rfl, fun W hb => ph_3 (h1.out.below hb) c hk hd1 hd2 hp⟩
       obtain ⟨g, hg1, hg2, hg3⟩ := hgx
       replace hg1 := Lh hg1; replace hg3 := Lh hg3; replace hph := Lh hph
       cases fb with
       | true =>
        have hnd : needR x c = 1 := by unfold needR; rw [← hfb.out]; rfl
        go_wp2_with (fail)
        refine (hrm.out _ kx.out).mono ?_
        rintro e V4 ⟨rfl, b4⟩
        have kx4 := Lh (kx.out.trans (b4.mono kx.out.size))
        clear b4 kx
        have kx := kx4
        clear kx4 z3 z4 z5 c4 hlt3 hxw
        by_cases hrl : 2048 - (ml : Int) < 1
        ·
         have e1 : fr = (4, 0, noText) := by rw [hfr.out, ← hfa.out, how, hnc, hnd, ← hml]; simp [hrl]
         have e3 : fx = x := by rw [hfx.out, ← hfa.out, how, hnc, hnd, ← hml]; simp [hrl]
         subst e1; subst e3
         go_wp2_with (fail)
         refine (refused_any 4 _).mono ?_
         rintro e V8 ⟨rfl, b8⟩
         have k8 := Lh (kx.out.trans (b8.mono kx.out.size))
         have e1 := (k8.out.block _ (blkX b1.out)).trans b1.out
         have s0 := blkC e1 0
         have s1 := blkC e1 1
         have s2 := blkC e1 2
         have sf := blkF e1; have sx := blkX e1
         simp only [List.getElem?_toArray, List.getElem?_cons_zero, List.getElem?_cons_succ] at s0 s1 s2
         replace e1 := Lh e1
         clear b8
         go_wp2_with (fail)
         refine bodyPost_ret (by simp [results, Tryz.results28, go_sem, *]; try with_reducible rfl) rfl ?_
         exact ⟨rfl, p, (ShTo.set (ShTo.set (ShTo.set (ShTo.below h.out (k1.out.trans (k8.out.mono k1.out.size))) (a := ⟨v.heap.size + 1, 0, none⟩) (by simp only; omega) (h.out.out (by simp only; omega)) _) (a := ⟨v.heap.size + 1, 1, none⟩) (by simp only; omega) (h.out.out (by simp only; omega)) _) (a := ⟨v.heap.size + 1, 2, none⟩) (by simp only; omega) (h.out.out (by simp only; omega)) _)⟩
        ·
         have e1 : fr = phR x c := by rw [hfr.out, ← hfa.out, how, hnc, hnd, ← hml]; simp [hrl]
         have e3 : fx = keepX x c := by rw [hfx.out, ← hfa.out, how, hnc, hnd, ← hml]; simp [hrl]
         subst e1; subst e3
         go_wp2_with (fail)
         obtain ⟨V5, hV5⟩ : ∃ Z, Z = V4.alloc (.cells #[.nilFunc, .func (.func 67) #[] #[], .func (.func 68) #[] #[], .func (.func 69) #[] #[]] 132) := ⟨_, rfl⟩
         have b5 : Below V4.heap.size V4 V5 := by rw [hV5]; exact (Below.refl _ _).alloc (Nat.le_refl _) _
         obtain ⟨pb, hpb⟩ : ∃ n, n = V4.heap.size := ⟨_, rfl⟩
         have qp : V5.heap[pb]? = some (.cells #[.nilFunc, .func (.func 67) #[] #[], .func (.func 68) #[] #[], .func (.func 69) #[] #[]] 132 (0, 0)) := by rw [hV5, hpb]; exact hpNew _ _
         rw [← hV5, ← hpb]
         obtain ⟨V6, hV6⟩ : ∃ W, W = V5.drew := ⟨_, rfl⟩
         have b6 : Below V5.heap.size V5 V6 := by rw [hV6]; exact (Below.refl _ _).drew
         have k6 := kx.out.trans ((b5.trans (b6.mono b5.size)).mono kx.out.size)
         have qp6 := (b6.block _ (blkX qp)).trans qp
         have s6 := h1.out.below k6
         have g6 := (k6.block _ (blkX b0.out)).trans b0.out
         have d6 := (k6.block _ (blkX b1.out)).trans b1.out
         have hx1 := blkX b1.out
         have hwv := k1.out.size
         have hpbv : v.heap.size ≤ pb := by rw [hpb]; exact (k1.out.trans (kx.out.mono k1.out.size)).size
         have hi0 : (0 : Int) ≤ c.e.2.2 := by have := hph.out; omega
         have hi1 : c.e.2.2 < 4 := by have := hph.out; omega
         have hphc := hg3.out
         obtain ⟨rr, hrr⟩ : ∃ z, z = phR x c := ⟨_, rfl⟩
         obtain ⟨rk, hrk⟩ : ∃ z, z = phK x c := ⟨_, rfl⟩
         obtain ⟨xx, hxx⟩ : ∃ z, z = phX x c := ⟨_, rfl⟩
         have hkx : keepX x c = if rk then { xx with mem := putL 2048 xx.mem ⟨c.e, c.key, rr⟩ } else xx := by rw [hrr, hrk, hxx]; rfl
         skip
         unfold PhTo repV at hphc
         simp only [← hrr, ← hrk, ← hxx] at hphc
         replace hphc := Lh hphc; replace hV5 := Lh hV5; replace hpb := Lh hpb; replace qp := Lh qp; replace qp6 := Lh qp6; replace hV6 := Lh hV6; replace b5 := Lh b5; replace b6 := Lh b6; replace k6 := Lh k6; replace s6 := Lh s6; replace g6 := Lh g6; replace d6 := Lh d6; replace hx1 := Lh hx1; replace hwv := Lh hwv; replace hpbv := Lh hpbv; replace hkx := Lh hkx; replace hrr := Lh hrr; replace hrk := Lh hrk; replace hxx := Lh hxx
         apply joinArms (F := fun V ab => v.heap.size ≤ ab ∧ V.heap[ab]? = some (.cells #[.int .i64 rr.1, .int .i64 rr.2.1, .string rr.2.2] 52 (0, 0)) ∧ (∃ p', ShTo base p p' xx v V ∧ shV p' xx = shV p x ∧ ¬ p'.foot ab ∧ ¬ p'.foot (v.heap.size + 1) ∧ ¬ p'.foot v.heap.size) ∧ V.heap[v.heap.size]? = some (.cells (cdV c) 40 (0, 0)) ∧ V.heap[v.heap.size + 1]? = some (.cells #[.int .i64 0, .int .i64 0, .string ⟨#[]⟩] 52 (0, 0)))
         ·
          intro hfin
          refine wp_region_held_drew (S := (fun W' : World => W'.heap[p.S]? = some (.cells (shV p x) 88 (0, 0)) ∧ W'.heap[v.heap.size]? = some (.cells (cdV c) 40 (0, 0)) ∧ W'.heap[pb]? = some (.cells #[.nilFunc, .func (.func 67) #[] #[], .func (.func 68) #[] #[], .func (.func 69) #[] #[]] 132 (0, 0)))) (by kernel_rfl) ?_ (fun hH => ?_)
          ·
           rw [← hV6.out]
           exact ⟨s6.out.blk, g6.out, qp6.out⟩
          refine tl 0 hH ?_
          refine tl 1 hH ?_
          refine tk (i := 2) (v := ?_) (hy := .inl ⟨by rfl, by intro w hSw; obtain ⟨sS, sC, sP⟩ := hSw; have t0 : w.cell? ⟨v.heap.size, 5, none⟩ = some (.int .i64 c.e.2.2) := blkC sC 5; go_simp; first | done | with_reducible rfl⟩) (hS := hH) (h := ?_)
          refine tl 3 hH ?_
          refine tk (i := 4) (v := ?_) (hy := .inl ⟨by rfl, by intro w hSw; obtain ⟨sS, sC, sP⟩ := hSw; have t0 : w.cell? ⟨pb, c.e.2.2.toNat, none⟩ = some (.func (.func g) #[] #[]) := (blkC sP c.e.2.2.toNat).trans hg1.out; go_simp; first | done | with_reducible rfl⟩) (hS := hH) (h := ?_)
          refine tl 5 hH ?_
          refine tk (i := 6) (v := ?_) (hy := .inl ⟨by rfl, by intro w hSw; obtain ⟨sS, sC, sP⟩ := hSw; have hld := cd_load sC; go_simp; first | done | with_reducible rfl⟩) (hS := hH) (h := ?_)
          refine wpAnyH_ready (rs := [7, 11]) (by kernel_rfl) (by simp) ?_
          refine AllReadyH.cons rfl (fun K hK => ?_) ?_
          ·
           clear hH
           rw [← hV6.out]
           go_simp
           refine (hphc.out _ k6.out).mono ?_
           rintro e V8 ⟨rfl, p', sh, hsv⟩
           have s8 := sh.pre (k1.out.trans (k6.out.mono k1.out.size))
           have bS := s8.sh.blk
           rw [s8.same, hsv] at bS
           have bB := Lh (sh.blk d6.out (h.out.out (by omega)))
           have hnf1 := Lh (sh.nfoot h.out (k := v.heap.size + 1) (by omega) (blkX d6.out))
           have hnfc := Lh (sh.nfoot h.out (k := v.heap.size) (Nat.le_refl _) (blkX g6.out))
           have hz8 := Lh (Nat.le_trans k6.out.size sh.chg.size)
           have bC := sh.blk g6.out (h.out.out (Nat.le_refl _))
           have bP := sh.blk qp6.out (h.out.out hpbv.out)
           replace s8 := Lh s8
           clear sh
           refine hK.out _ _ ⟨bS, bC, bP⟩ (fun hH => ?_)
           clear hK K
           replace bS := Lh bS; replace bC := Lh bC; replace bP := Lh bP
           refine tl 8 hH ?_
           refine tl 9 hH ?_
           refine tl 10 hH ?_
           refine wpAnyH_ready (rs := [11]) (by kernel_rfl) (by simp) ?_
           refine AllReadyH.cons rfl (fun K hK => ?_) ?_
           ·
            clear hH
            go_simp
            obtain ⟨V7, hVV⟩ : ∃ Z, Z = V8.alloc (.cells #[.int .i64 0, .int .i64 0, .string ⟨#[]⟩] 52) := ⟨_, rfl⟩
            have bb : Below V8.heap.size V8 V7 := by rw [hVV]; exact (Below.refl _ _).alloc (Nat.le_refl _) _
            obtain ⟨ab, hab⟩ : ∃ n, n = V8.heap.size := ⟨_, rfl⟩
            have qa8 := Lh (show V7.heap[ab]? = some (.cells #[.int .i64 0, .int .i64 0, .string ⟨#[]⟩] 52 (0, 0)) from by rw [hVV, hab]; exact hpNew _ _)
            have hge := Lh (show v.heap.size ≤ ab from by rw [hab]; exact s8.out.chg.size)
            have hnf := Lh (show ¬ p'.foot ab from by rw [hab]; exact s8.out.sh.out (Nat.le_refl _))
            have hgw := Lh (show W1.heap.size ≤ ab from by rw [hab]; exact hz8.out)
            have bB9 := Lh ((bb.block _ (blkX bB.out)).trans bB.out)
            have s9 := Lh (s8.out.thenB bb)
            have bC9 := Lh ((bb.block _ (blkX bC.out)).trans bC.out)
            have bP9 := Lh ((bb.block _ (blkX bP.out)).trans bP.out)
            have bS9 := Lh ((bb.block _ (blkX bS.out)).trans bS.out)
            clear bb
            rw [← hVV, ← hab]
            replace hVV := Lh hVV; replace hab := Lh hab
            refine hK.out _ _ ⟨bS9.out, bC9.out, bP9.out⟩ (fun hH => ?_)
            clear hK K
            refine wpAnyH_ready (rs := [12]) (by kernel_rfl) (by simp) ?_
            refine AllReadyH.cons rfl (fun K hK => ?_) ?_
            ·
             clear hH
             have e0 := blkC qa8.out 0; have e1 := blkC qa8.out 1; have e2 := blkC qa8.out 2; have ef := blkF qa8.out; have ex := blkX qa8.out
             simp only [List.getElem?_toArray, List.getElem?_cons_zero, List.getElem?_cons_succ] at e0 e1 e2
             go_simp
             have qf := hpSet (i := 2) (v := .string rr.2.2) (hpSet (i := 1) (v := .int .i64 rr.2.1) (hpSet (i := 0) (v := .int .i64 rr.1) qa8.out))
             simp only [List.setIfInBounds_toArray, List.set_cons_succ, List.set_cons_zero] at qf
             have sf : ShTo base p p' xx v (((V7.setCell ⟨ab, 0, none⟩ (.int .i64 rr.1)).setCell ⟨ab, 1, none⟩ (.int .i64 rr.2.1)).setCell ⟨ab, 2, none⟩ (.string rr.2.2)) := (ShTo.set (ShTo.set (ShTo.set s9.out (a := ⟨ab, 0, none⟩) hge.out hnf.out _) (a := ⟨ab, 1, none⟩) hge.out hnf.out _) (a := ⟨ab, 2, none⟩) hge.out hnf.out _)
             have fS := sf.sh.blk
             rw [sf.same, hsv] at fS
             have n1 : v.heap.size ≠ ab := by have := qa8.out; rintro rfl; rw [bC9.out] at this; injection this with this; injection this with _ this; exact absurd this (by decide)
             have n2 : pb ≠ ab := by have := qa8.out; rintro rfl; rw [bP9.out] at this; injection this with this; injection this with _ this; exact absurd this (by decide)
             have fC := (hpFar (w := (V7.setCell ⟨ab, 0, none⟩ (.int .i64 rr.1)).setCell ⟨ab, 1, none⟩ (.int .i64 rr.2.1)) (a := ⟨ab, 2, none⟩) (v := .string rr.2.2) n1).trans ((hpFar (w := V7.setCell ⟨ab, 0, none⟩ (.int .i64 rr.1)) (a := ⟨ab, 1, none⟩) (v := .int .i64 rr.2.1) n1).trans ((hpFar (a := ⟨ab, 0, none⟩) (v := .int .i64 rr.1) n1).trans bC9.out))
             have fP := (hpFar (w := (V7.setCell ⟨ab, 0, none⟩ (.int .i64 rr.1)).setCell ⟨ab, 1, none⟩ (.int .i64 rr.2.1)) (a := ⟨ab, 2, none⟩) (v := .string rr.2.2) n2).trans ((hpFar (w := V7.setCell ⟨ab, 0, none⟩ (.int .i64 rr.1)) (a := ⟨ab, 1, none⟩) (v := .int .i64 rr.2.1) n2).trans ((hpFar (a := ⟨ab, 0, none⟩) (v := .int .i64 rr.1) n2).trans bP9.out))
             have n3 : v.heap.size + 1 ≠ ab := by have := hgw.out; have := hx1.out; omega
             have fB := (hpFar (w := (V7.setCell ⟨ab, 0, none⟩ (.int .i64 rr.1)).setCell ⟨ab, 1, none⟩ (.int .i64 rr.2.1)) (a := ⟨ab, 2, none⟩) (v := .string rr.2.2) n3).trans ((hpFar (w := V7.setCell ⟨ab, 0, none⟩ (.int .i64 rr.1)) (a := ⟨ab, 1, none⟩) (v := .int .i64 rr.2.1) n3).trans ((hpFar (a := ⟨ab, 0, none⟩) (v := .int .i64 rr.1) n3).trans bB9.out))
             generalize hV9 : ((V7.setCell ⟨ab, 0, none⟩ (.int .i64 rr.1)).setCell ⟨ab, 1, none⟩ (.int .i64 rr.2.1)).setCell ⟨ab, 2, none⟩ (.string rr.2.2) = V9 at qf sf fS fC fP fB ⊢
             refine hK.out _ _ ⟨fS, fC, fP⟩ (fun hH => ?_)
             clear hK K e0 e1 e2 ef ex
             refine tl 13 hH ?_
             refine wpAnyH_done (by kernel_rfl) ?_ _
             clear hH
             exact hfin _ _ ⟨hge.out, qf, ⟨p', sf, hsv, hnf.out, hnf1.out, hnfc.out⟩, fC, fB⟩
            exact AllReadyH.nil
           exact AllReadyH.nil
          refine AllReadyH.cons rfl (fun K hK => ?_) ?_
          ·
           clear hH
           rw [← hV6.out]
           go_simp
           obtain ⟨V7, hVV⟩ : ∃ Z, Z = V6.alloc (.cells #[.int .i64 0, .int .i64 0, .string ⟨#[]⟩] 52) := ⟨_, rfl⟩
           have bb : Below V6.heap.size V6 V7 := by rw [hVV]; exact (Below.refl _ _).alloc (Nat.le_refl _) _
           obtain ⟨ab, hab⟩ : ∃ n, n = V6.heap.size := ⟨_, rfl⟩
           have qa7 := Lh (show V7.heap[ab]? = some (.cells #[.int .i64 0, .int .i64 0, .string ⟨#[]⟩] 52 (0, 0)) from by rw [hVV, hab]; exact hpNew _ _)
           have hge := Lh (show v.heap.size ≤ ab from by rw [hab]; exact (k1.out.trans (k6.out.mono k1.out.size)).size)
           have hgw := Lh (show W1.heap.size ≤ ab from by rw [hab]; exact k6.out.size)
           have d7 := Lh ((bb.block _ (blkX d6.out)).trans d6.out)
           have kb7 := Lh (k6.out.trans (bb.mono k6.out.size))
           have g7 := Lh ((bb.block _ (blkX g6.out)).trans g6.out)
           have qp7 := Lh ((bb.block _ (blkX qp6.out)).trans qp6.out)
           clear bb
           rw [← hVV, ← hab]
           replace hVV := Lh hVV; replace hab := Lh hab
           refine hK.out _ _ ⟨(h1.out.below kb7.out).blk, g7.out, qp7.out⟩ (fun hH => ?_)
           clear hK K
           refine wpAnyH_ready (rs := [7]) (by kernel_rfl) (by simp) ?_
           refine AllReadyH.cons rfl (fun K hK => ?_) ?_
           ·
            clear hH
            go_simp
            refine (hphc.out _ kb7.out).mono ?_
            rintro e V8 ⟨rfl, p', sh, hsv⟩
            have s8 := sh.pre (k1.out.trans (kb7.out.mono k1.out.size))
            have bS := s8.sh.blk
            rw [s8.same, hsv] at bS
            have bB := Lh (sh.blk d7.out (h.out.out (by omega)))
            have hnf1 := Lh (sh.nfoot h.out (k := v.heap.size + 1) (by omega) (blkX d7.out))
            have hnfc := Lh (sh.nfoot h.out (k := v.heap.size) (Nat.le_refl _) (blkX g7.out))
            have bC := sh.blk g7.out (h.out.out (Nat.le_refl _))
            have bP := sh.blk qp7.out (h.out.out hpbv.out)
            have qa8 := Lh (sh.blk qa7.out (h.out.out hge.out))
            have hnf := Lh (sh.nfoot h.out hge.out (blkX qa7.out))
            replace s8 := Lh s8
            clear sh
            refine hK.out _ _ ⟨bS, bC, bP⟩ (fun hH => ?_)
            clear hK K
            replace bS := Lh bS; replace bC := Lh bC; replace bP := Lh bP
            refine tl 8 hH ?_
            refine tl 9 hH ?_
            refine tl 10 hH ?_
            refine wpAnyH_ready (rs := [12]) (by kernel_rfl) (by simp) ?_
            refine AllReadyH.cons rfl (fun K hK => ?_) ?_
            ·
             clear hH
             have e0 := blkC qa8.out 0; have e1 := blkC qa8.out 1; have e2 := blkC qa8.out 2; have ef := blkF qa8.out; have ex := blkX qa8.out
             simp only [List.getElem?_toArray, List.getElem?_cons_zero, List.getElem?_cons_succ] at e0 e1 e2
             go_simp
             have qf := hpSet (i := 2) (v := .string rr.2.2) (hpSet (i := 1) (v := .int .i64 rr.2.1) (hpSet (i := 0) (v := .int .i64 rr.1) qa8.out))
             simp only [List.setIfInBounds_toArray, List.set_cons_succ, List.set_cons_zero] at qf
             have sf : ShTo base p p' xx v (((V8.setCell ⟨ab, 0, none⟩ (.int .i64 rr.1)).setCell ⟨ab, 1, none⟩ (.int .i64 rr.2.1)).setCell ⟨ab, 2, none⟩ (.string rr.2.2)) := (ShTo.set (ShTo.set (ShTo.set s8.out (a := ⟨ab, 0, none⟩) hge.out hnf.out _) (a := ⟨ab, 1, none⟩) hge.out hnf.out _) (a := ⟨ab, 2, none⟩) hge.out hnf.out _)
             have fS := sf.sh.blk
             rw [sf.same, hsv] at fS
             have n1 : v.heap.size ≠ ab := by have := qa8.out; rintro rfl; rw [bC.out] at this; injection this with this; injection this with _ this; exact absurd this (by decide)
             have n2 : pb ≠ ab := by have := qa8.out; rintro rfl; rw [bP.out] at this; injection this with this; injection this with _ this; exact absurd this (by decide)
             have fC := (hpFar (w := (V8.setCell ⟨ab, 0, none⟩ (.int .i64 rr.1)).setCell ⟨ab, 1, none⟩ (.int .i64 rr.2.1)) (a := ⟨ab, 2, none⟩) (v := .string rr.2.2) n1).trans ((hpFar (w := V8.setCell ⟨ab, 0, none⟩ (.int .i64 rr.1)) (a := ⟨ab, 1, none⟩) (v := .int .i64 rr.2.1) n1).trans ((hpFar (a := ⟨ab, 0, none⟩) (v := .int .i64 rr.1) n1).trans bC.out))
             have fP := (hpFar (w := (V8.setCell ⟨ab, 0, none⟩ (.int .i64 rr.1)).setCell ⟨ab, 1, none⟩ (.int .i64 rr.2.1)) (a := ⟨ab, 2, none⟩) (v := .string rr.2.2) n2).trans ((hpFar (w := V8.setCell ⟨ab, 0, none⟩ (.int .i64 rr.1)) (a := ⟨ab, 1, none⟩) (v := .int .i64 rr.2.1) n2).trans ((hpFar (a := ⟨ab, 0, none⟩) (v := .int .i64 rr.1) n2).trans bP.out))
             have n3 : v.heap.size + 1 ≠ ab := by have := hgw.out; have := hx1.out; omega
             have fB := (hpFar (w := (V8.setCell ⟨ab, 0, none⟩ (.int .i64 rr.1)).setCell ⟨ab, 1, none⟩ (.int .i64 rr.2.1)) (a := ⟨ab, 2, none⟩) (v := .string rr.2.2) n3).trans ((hpFar (w := V8.setCell ⟨ab, 0, none⟩ (.int .i64 rr.1)) (a := ⟨ab, 1, none⟩) (v := .int .i64 rr.2.1) n3).trans ((hpFar (a := ⟨ab, 0, none⟩) (v := .int .i64 rr.1) n3).trans bB.out))
             generalize hV9 : ((V8.setCell ⟨ab, 0, none⟩ (.int .i64 rr.1)).setCell ⟨ab, 1, none⟩ (.int .i64 rr.2.1)).setCell ⟨ab, 2, none⟩ (.string rr.2.2) = V9 at qf sf fS fC fP fB ⊢
             refine hK.out _ _ ⟨fS, fC, fP⟩ (fun hH => ?_)
             clear hK K e0 e1 e2 ef ex
             refine tl 13 hH ?_
             refine wpAnyH_done (by kernel_rfl) ?_ _
             clear hH
             exact hfin _ _ ⟨hge.out, qf, ⟨p', sf, hsv, hnf.out, hnf1.out, hnfc.out⟩, fC, fB⟩
            exact AllReadyH.nil
           exact AllReadyH.nil
          exact AllReadyH.nil
         ·
          rintro V9 ab ⟨hge, qf, ⟨p', sf, hsv, hnf, hnf1, hnfc⟩, fC, fB⟩
          have z0 := blkC qf 0; have z1 := blkC qf 1; have z2 := blkC qf 2; have zx := blkX qf
          simp only [List.getElem?_toArray, List.getElem?_cons_zero, List.getElem?_cons_succ] at z0 z1 z2
          have sfh := sf.sh
          have hD : p'.D = p.D := by have := congrArg (fun a => a[4]?) hsv; simpa [shV] using this
          have fS := sf.sh.blk
          rw [sf.same, hsv] at fS
          replace sf := Lh sf; replace hsv := Lh hsv; replace hnf := Lh hnf; replace hnf1 := Lh hnf1; replace hnfc := Lh hnfc; replace fS := Lh fS; replace sfh := Lh sfh; replace hD := Lh hD
          cases rk with
          | false =>
           have hkx1 : Hid (keepX x c = xx) := Lh (by rw [hkx.out]; rfl)
           have q_0 := blkC fB 0
           have q_1 := blkC fB 1
           have q_2 := blkC fB 2
           have q_f := blkF fB; have q_x := blkX fB
           simp only [List.getElem?_toArray, List.getElem?_cons_zero, List.getElem?_cons_succ] at q_0 q_1 q_2
           replace fB := Lh fB; replace fC := Lh fC; replace qf := Lh qf
           go_wp2_with (fail)
           refine bodyPost_ret (by simp [results, Tryz.results28, go_sem, *]; try with_reducible rfl) rfl ?_
           refine ⟨by rw [← hrr.out], p', ?_⟩
           rw [hkx1.out]
           exact (ShTo.set (ShTo.set (ShTo.set sf.out (a := ⟨v.heap.size + 1, 0, none⟩) (by simp only; omega) hnf1.out _) (a := ⟨v.heap.size + 1, 1, none⟩) (by simp only; omega) hnf1.out _) (a := ⟨v.heap.size + 1, 2, none⟩) (by simp only; omega) hnf1.out _)
          | true =>
           have hkx1 : Hid (keepX x c = { xx with mem := putL 2048 xx.mem ⟨c.e, c.key, rr⟩ }) := Lh (by rw [hkx.out]; rfl)
           replace fB := Lh fB; replace fC := Lh fC; replace qf := Lh qf
           clear z0 z1 z2 zx
           go_wp2_with (fail)
           obtain ⟨V10, hV10⟩ : ∃ W, W = V9.drew := ⟨_, rfl⟩
           have bd : Below V9.heap.size V9 V10 := by rw [hV10]; exact (Below.refl _ _).drew
           have tS := Lh ((bd.block _ (blkX fS.out)).trans fS.out)
           have tC := Lh ((bd.block _ (blkX fC.out)).trans fC.out)
           have tB := Lh ((bd.block _ (blkX fB.out)).trans fB.out)
           have tA := Lh ((bd.block _ (blkX qf.out)).trans qf.out)
           have st := Lh (sf.out.thenB bd)
           have hbt := Lh (Nat.le_trans hbv st.out.chg.size)
           have hput := st.out.sh.putMem hbt.out c.e c.key rr hk
           rw [hD.out] at hput
           replace hput := Lh hput; replace hV10 := Lh hV10
           clear bd
           refine wp_region_held_drew (S := (fun W' : World => W'.heap[p.S]? = some (.cells (shV p x) 88 (0, 0)) ∧ W'.heap[v.heap.size]? = some (.cells (cdV c) 40 (0, 0)) ∧ W'.heap[ab]? = some (.cells #[.int .i64 rr.1, .int .i64 rr.2.1, .string rr.2.2] 52 (0, 0)))) (by kernel_rfl) ?_ (fun hH => ?_)
           ·
            rw [← hV10.out]
            exact ⟨tS.out, tC.out, tA.out⟩
           refine tl 0 hH ?_
           refine tl 1 hH ?_
           refine tl 2 hH ?_
           refine tk (i := 3) (v := ?_) (hy := .inl ⟨by rfl, by intro w hSw; obtain ⟨sS, sC, sA⟩ := hSw; have t0 : w.cell? ⟨p.S, 4, none⟩ = some (.pointer (some ⟨p.D, 0, none⟩)) := blkC sS 4; go_simp; first | done | with_reducible rfl⟩) (hS := hH) (h := ?_)
           refine tl 4 hH ?_
           refine tk (i := 5) (v := ?_) (hy := .inl ⟨by rfl, by intro w hSw; obtain ⟨sS, sC, sA⟩ := hSw; have t0 : w.cell? ⟨v.heap.size, 3, none⟩ = some (.int .i64 c.e.1) := blkC sC 3; have t1 : w.cell? ⟨v.heap.size, 4, none⟩ = some (.int .i64 c.e.2.1) := blkC sC 4; have t2 : w.cell? ⟨v.heap.size, 5, none⟩ = some (.int .i64 c.e.2.2) := blkC sC 5; go_simp; first | done | with_reducible rfl⟩) (hS := hH) (h := ?_)
           refine tl 6 hH ?_
           refine tk (i := 7) (v := ?_) (hy := .inl ⟨by rfl, by intro w hSw; obtain ⟨sS, sC, sA⟩ := hSw; have t0 : w.cell? ⟨v.heap.size, 6, none⟩ = some (.string c.key) := blkC sC 6; go_simp; first | done | with_reducible rfl⟩) (hS := hH) (h := ?_)
           refine tk (i := 8) (v := ?_) (hy := .inl ⟨by rfl, by intro w hSw; obtain ⟨sS, sC, sA⟩ := hSw; have t0 : w.cell? ⟨ab, 0, none⟩ = some (.int .i64 rr.1) := blkC sA 0; have t1 : w.cell? ⟨ab, 1, none⟩ = some (.int .i64 rr.2.1) := blkC sA 1; have t2 : w.cell? ⟨ab, 2, none⟩ = some (.string rr.2.2) := blkC sA 2; go_simp; first | done | with_reducible rfl⟩) (hS := hH) (h := ?_)
           refine wpAnyH_ready (rs := [9]) (by kernel_rfl) (by simp) ?_
           refine AllReadyH.cons rfl (fun K hK => ?_) ?_
           ·
            clear hH
            rw [← hV10.out]
            go_simp
            refine hput.out.mono ?_
            rintro e V11 ⟨rfl, p2, s2, hs2⟩
            have uB := s2.blk tB.out hnf1.out
            have uA := s2.blk tA.out hnf.out
            have uC := s2.blk tC.out hnfc.out
            have uS := s2.sh.blk
            rw [s2.same, hs2, st.out.same, hsv.out] at uS
            have hnf2 : ¬ p2.foot (v.heap.size + 1) := fun q => (s2.new _ q).elim hnf1.out (fun e => by have := blkX tB.out; omega)
            have z0 := blkC uA 0; have z1 := blkC uA 1; have z2 := blkC uA 2; have zx := blkX uA
            simp only [List.getElem?_toArray, List.getElem?_cons_zero, List.getElem?_cons_succ] at z0 z1 z2
            have q_0 := blkC uB 0
            have q_1 := blkC uB 1
            have q_2 := blkC uB 2
            have q_f := blkF uB; have q_x := blkX uB
            simp only [List.getElem?_toArray, List.getElem?_cons_zero, List.getElem?_cons_succ] at q_0 q_1 q_2
            replace hnf2 := Lh hnf2; replace s2 := Lh s2
            refine hK.out _ _ ⟨uS, uC, uA⟩ (fun hH => ?_)
            clear hK K
            replace uB := Lh uB; replace uA := Lh uA; replace uC := Lh uC; replace uS := Lh uS
            refine wpAnyH_done (by kernel_rfl) ?_ _
            clear hH
            go_wp2_with (fail)
            refine bodyPost_ret (by simp [results, Tryz.results28, go_sem, *]; try with_reducible rfl) rfl ?_
            refine ⟨by rw [← hrr.out], p2, ?_⟩
            rw [hkx1.out]
            exact (ShTo.set (ShTo.set (ShTo.set (st.out.trans s2.out) (a := ⟨v.heap.size + 1, 0, none⟩) (by simp only; omega) hnf2.out _) (a := ⟨v.heap.size + 1, 1, none⟩) (by simp only; omega) hnf2.out _) (a := ⟨v.heap.size + 1, 2, none⟩) (by simp only; omega) hnf2.out _)
           exact AllReadyH.nil
       | false =>
        by_cases hp2 : c.e.2.2 = 2
        ·
         have hp3 := decide_eq_true hp2
         replace hp2 := Lh hp2
         have hnd : needR x c = 2 := by unfold needR; rw [← hfb.out, hp3]; rfl
         have hpe : (c.e.2.2 == 2) = true := hp3
         go_wp2_with (fail)
         refine (hrm.out _ kx.out).mono ?_
         rintro e V4 ⟨rfl, b4⟩
         have kx4 := Lh (kx.out.trans (b4.mono kx.out.size))
         clear b4 kx
         have kx := kx4
         clear kx4 z3 z4 z5 c4 hlt3 hxw hpe
         by_cases hrl : 2048 - (ml : Int) < 2
         ·
          have e1 : fr = (4, 0, noText) := by rw [hfr.out, ← hfa.out, how, hnc, hnd, ← hml]; simp [hrl]
          have e3 : fx = x := by rw [hfx.out, ← hfa.out, how, hnc, hnd, ← hml]; simp [hrl]
          subst e1; subst e3
          go_wp2_with (fail)
          refine (refused_any 4 _).mono ?_
          rintro e V8 ⟨rfl, b8⟩
          have k8 := Lh (kx.out.trans (b8.mono kx.out.size))
          have e1 := (k8.out.block _ (blkX b1.out)).trans b1.out
          have s0 := blkC e1 0
          have s1 := blkC e1 1
          have s2 := blkC e1 2
          have sf := blkF e1; have sx := blkX e1
          simp only [List.getElem?_toArray, List.getElem?_cons_zero, List.getElem?_cons_succ] at s0 s1 s2
          replace e1 := Lh e1
          clear b8
          go_wp2_with (fail)
          refine bodyPost_ret (by simp [results, Tryz.results28, go_sem, *]; try with_reducible rfl) rfl ?_
          exact ⟨rfl, p, (ShTo.set (ShTo.set (ShTo.set (ShTo.below h.out (k1.out.trans (k8.out.mono k1.out.size))) (a := ⟨v.heap.size + 1, 0, none⟩) (by simp only; omega) (h.out.out (by simp only; omega)) _) (a := ⟨v.heap.size + 1, 1, none⟩) (by simp only; omega) (h.out.out (by simp only; omega)) _) (a := ⟨v.heap.size + 1, 2, none⟩) (by simp only; omega) (h.out.out (by simp only; omega)) _)⟩
         ·
          have e1 : fr = phR x c := by rw [hfr.out, ← hfa.out, how, hnc, hnd, ← hml]; simp [hrl]
          have e3 : fx = keepX x c := by rw [hfx.out, ← hfa.out, how, hnc, hnd, ← hml]; simp [hrl]
          subst e1; subst e3
          go_wp2_with (fail)
          obtain ⟨V5, hV5⟩ : ∃ Z, Z = V4.alloc (.cells #[.nilFunc, .func (.func 67) #[] #[], .func (.func 68) #[] #[], .func (.func 69) #[] #[]] 132) := ⟨_, rfl⟩
          have b5 : Below V4.heap.size V4 V5 := by rw [hV5]; exact (Below.refl _ _).alloc (Nat.le_refl _) _
          obtain ⟨pb, hpb⟩ : ∃ n, n = V4.heap.size := ⟨_, rfl⟩
          have qp : V5.heap[pb]? = some (.cells #[.nilFunc, .func (.func 67) #[] #[], .func (.func 68) #[] #[], .func (.func 69) #[] #[]] 132 (0, 0)) := by rw [hV5, hpb]; exact hpNew _ _
          rw [← hV5, ← hpb]
          obtain ⟨V6, hV6⟩ : ∃ W, W = V5.drew := ⟨_, rfl⟩
          have b6 : Below V5.heap.size V5 V6 := by rw [hV6]; exact (Below.refl _ _).drew
          have k6 := kx.out.trans ((b5.trans (b6.mono b5.size)).mono kx.out.size)
          have qp6 := (b6.block _ (blkX qp)).trans qp
          have s6 := h1.out.below k6
          have g6 := (k6.block _ (blkX b0.out)).trans b0.out
          have d6 := (k6.block _ (blkX b1.out)).trans b1.out
          have hx1 := blkX b1.out
          have hwv := k1.out.size
          have hpbv : v.heap.size ≤ pb := by rw [hpb]; exact (k1.out.trans (kx.out.mono k1.out.size)).size
          have hi0 : (0 : Int) ≤ c.e.2.2 := by have := hph.out; omega
          have hi1 : c.e.2.2 < 4 := by have := hph.out; omega
          have hphc := hg3.out
          obtain ⟨rr, hrr⟩ : ∃ z, z = phR x c := ⟨_, rfl⟩
          obtain ⟨rk, hrk⟩ : ∃ z, z = phK x c := ⟨_, rfl⟩
          obtain ⟨xx, hxx⟩ : ∃ z, z = phX x c := ⟨_, rfl⟩
          have hkx : keepX x c = if rk then { xx with mem := putL 2048 xx.mem ⟨c.e, c.key, rr⟩ } else xx := by rw [hrr, hrk, hxx]; rfl
          skip
          unfold PhTo repV at hphc
          simp only [← hrr, ← hrk, ← hxx] at hphc
          replace hphc := Lh hphc; replace hV5 := Lh hV5; replace hpb := Lh hpb; replace qp := Lh qp; replace qp6 := Lh qp6; replace hV6 := Lh hV6; replace b5 := Lh b5; replace b6 := Lh b6; replace k6 := Lh k6; replace s6 := Lh s6; replace g6 := Lh g6; replace d6 := Lh d6; replace hx1 := Lh hx1; replace hwv := Lh hwv; replace hpbv := Lh hpbv; replace hkx := Lh hkx; replace hrr := Lh hrr; replace hrk := Lh hrk; replace hxx := Lh hxx
          apply joinArms (F := fun V ab => v.heap.size ≤ ab ∧ V.heap[ab]? = some (.cells #[.int .i64 rr.1, .int .i64 rr.2.1, .string rr.2.2] 52 (0, 0)) ∧ (∃ p', ShTo base p p' xx v V ∧ shV p' xx = shV p x ∧ ¬ p'.foot ab ∧ ¬ p'.foot (v.heap.size + 1) ∧ ¬ p'.foot v.heap.size) ∧ V.heap[v.heap.size]? = some (.cells (cdV c) 40 (0, 0)) ∧ V.heap[v.heap.size + 1]? = some (.cells #[.int .i64 0, .int .i64 0, .string ⟨#[]⟩] 52 (0, 0)))
          ·
           intro hfin
           refine wp_region_held_drew (S := (fun W' : World => W'.heap[p.S]? = some (.cells (shV p x) 88 (0, 0)) ∧ W'.heap[v.heap.size]? = some (.cells (cdV c) 40 (0, 0)) ∧ W'.heap[pb]? = some (.cells #[.nilFunc, .func (.func 67) #[] #[], .func (.func 68) #[] #[], .func (.func 69) #[] #[]] 132 (0, 0)))) (by kernel_rfl) ?_ (fun hH => ?_)
           ·
            rw [← hV6.out]
            exact ⟨s6.out.blk, g6.out, qp6.out⟩
           refine tl 0 hH ?_
           refine tl 1 hH ?_
           refine tk (i := 2) (v := ?_) (hy := .inl ⟨by rfl, by intro w hSw; obtain ⟨sS, sC, sP⟩ := hSw; have t0 : w.cell? ⟨v.heap.size, 5, none⟩ = some (.int .i64 c.e.2.2) := blkC sC 5; go_simp; first | done | with_reducible rfl⟩) (hS := hH) (h := ?_)
           refine tl 3 hH ?_
           refine tk (i := 4) (v := ?_) (hy := .inl ⟨by rfl, by intro w hSw; obtain ⟨sS, sC, sP⟩ := hSw; have t0 : w.cell? ⟨pb, c.e.2.2.toNat, none⟩ = some (.func (.func g) #[] #[]) := (blkC sP c.e.2.2.toNat).trans hg1.out; go_simp; first | done | with_reducible rfl⟩) (hS := hH) (h := ?_)
           refine tl 5 hH ?_
           refine tk (i := 6) (v := ?_) (hy := .inl ⟨by rfl, by intro w hSw; obtain ⟨sS, sC, sP⟩ := hSw; have hld := cd_load sC; go_simp; first | done | with_reducible rfl⟩) (hS := hH) (h := ?_)
           refine wpAnyH_ready (rs := [7, 11]) (by kernel_rfl) (by simp) ?_
           refine AllReadyH.cons rfl (fun K hK => ?_) ?_
           ·
            clear hH
            rw [← hV6.out]
            go_simp
            refine (hphc.out _ k6.out).mono ?_
            rintro e V8 ⟨rfl, p', sh, hsv⟩
            have s8 := sh.pre (k1.out.trans (k6.out.mono k1.out.size))
            have bS := s8.sh.blk
            rw [s8.same, hsv] at bS
            have bB := Lh (sh.blk d6.out (h.out.out (by omega)))
            have hnf1 := Lh (sh.nfoot h.out (k := v.heap.size + 1) (by omega) (blkX d6.out))
            have hnfc := Lh (sh.nfoot h.out (k := v.heap.size) (Nat.le_refl _) (blkX g6.out))
            have hz8 := Lh (Nat.le_trans k6.out.size sh.chg.size)
            have bC := sh.blk g6.out (h.out.out (Nat.le_refl _))
            have bP := sh.blk qp6.out (h.out.out hpbv.out)
            replace s8 := Lh s8
            clear sh
            refine hK.out _ _ ⟨bS, bC, bP⟩ (fun hH => ?_)
            clear hK K
            replace bS := Lh bS; replace bC := Lh bC; replace bP := Lh bP
            refine tl 8 hH ?_
            refine tl 9 hH ?_
            refine tl 10 hH ?_
            refine wpAnyH_ready (rs := [11]) (by kernel_rfl) (by simp) ?_
            refine AllReadyH.cons rfl (fun K hK => ?_) ?_
            ·
             clear hH
             go_simp
             obtain ⟨V7, hVV⟩ : ∃ Z, Z = V8.alloc (.cells #[.int .i64 0, .int .i64 0, .string ⟨#[]⟩] 52) := ⟨_, rfl⟩
             have bb : Below V8.heap.size V8 V7 := by rw [hVV]; exact (Below.refl _ _).alloc (Nat.le_refl _) _
             obtain ⟨ab, hab⟩ : ∃ n, n = V8.heap.size := ⟨_, rfl⟩
             have qa8 := Lh (show V7.heap[ab]? = some (.cells #[.int .i64 0, .int .i64 0, .string ⟨#[]⟩] 52 (0, 0)) from by rw [hVV, hab]; exact hpNew _ _)
             have hge := Lh (show v.heap.size ≤ ab from by rw [hab]; exact s8.out.chg.size)
             have hnf := Lh (show ¬ p'.foot ab from by rw [hab]; exact s8.out.sh.out (Nat.le_refl _))
             have hgw := Lh (show W1.heap.size ≤ ab from by rw [hab]; exact hz8.out)
             have bB9 := Lh ((bb.block _ (blkX bB.out)).trans bB.out)
             have s9 := Lh (s8.out.thenB bb)
             have bC9 := Lh ((bb.block _ (blkX bC.out)).trans bC.out)
             have bP9 := Lh ((bb.block _ (blkX bP.out)).trans bP.out)
             have bS9 := Lh ((bb.block _ (blkX bS.out)).trans bS.out)
             clear bb
             rw [← hVV, ← hab]
             replace hVV := Lh hVV; replace hab := Lh hab
             refine hK.out _ _ ⟨bS9.out, bC9.out, bP9.out⟩ (fun hH => ?_)
             clear hK K
             refine wpAnyH_ready (rs := [12]) (by kernel_rfl) (by simp) ?_
             refine AllReadyH.cons rfl (fun K hK => ?_) ?_
             ·
              clear hH
              have e0 := blkC qa8.out 0; have e1 := blkC qa8.out 1; have e2 := blkC qa8.out 2; have ef := blkF qa8.out; have ex := blkX qa8.out
              simp only [List.getElem?_toArray, List.getElem?_cons_zero, List.getElem?_cons_succ] at e0 e1 e2
              go_simp
              have qf := hpSet (i := 2) (v := .string rr.2.2) (hpSet (i := 1) (v := .int .i64 rr.2.1) (hpSet (i := 0) (v := .int .i64 rr.1) qa8.out))
              simp only [List.setIfInBounds_toArray, List.set_cons_succ, List.set_cons_zero] at qf
              have sf : ShTo base p p' xx v (((V7.setCell ⟨ab, 0, none⟩ (.int .i64 rr.1)).setCell ⟨ab, 1, none⟩ (.int .i64 rr.2.1)).setCell ⟨ab, 2, none⟩ (.string rr.2.2)) := (ShTo.set (ShTo.set (ShTo.set s9.out (a := ⟨ab, 0, none⟩) hge.out hnf.out _) (a := ⟨ab, 1, none⟩) hge.out hnf.out _) (a := ⟨ab, 2, none⟩) hge.out hnf.out _)
              have fS := sf.sh.blk
              rw [sf.same, hsv] at fS
              have n1 : v.heap.size ≠ ab := by have := qa8.out; rintro rfl; rw [bC9.out] at this; injection this with this; injection this with _ this; exact absurd this (by decide)
              have n2 : pb ≠ ab := by have := qa8.out; rintro rfl; rw [bP9.out] at this; injection this with this; injection this with _ this; exact absurd this (by decide)
              have fC := (hpFar (w := (V7.setCell ⟨ab, 0, none⟩ (.int .i64 rr.1)).setCell ⟨ab, 1, none⟩ (.int .i64 rr.2.1)) (a := ⟨ab, 2, none⟩) (v := .string rr.2.2) n1).trans ((hpFar (w := V7.setCell ⟨ab, 0, none⟩ (.int .i64 rr.1)) (a := ⟨ab, 1, none⟩) (v := .int .i64 rr.2.1) n1).trans ((hpFar (a := ⟨ab, 0, none⟩) (v := .int .i64 rr.1) n1).trans bC9.out))
              have fP := (hpFar (w := (V7.setCell ⟨ab, 0, none⟩ (.int .i64 rr.1)).setCell ⟨ab, 1, none⟩ (.int .i64 rr.2.1)) (a := ⟨ab, 2, none⟩) (v := .string rr.2.2) n2).trans ((hpFar (w := V7.setCell ⟨ab, 0, none⟩ (.int .i64 rr.1)) (a := ⟨ab, 1, none⟩) (v := .int .i64 rr.2.1) n2).trans ((hpFar (a := ⟨ab, 0, none⟩) (v := .int .i64 rr.1) n2).trans bP9.out))
              have n3 : v.heap.size + 1 ≠ ab := by have := hgw.out; have := hx1.out; omega
              have fB := (hpFar (w := (V7.setCell ⟨ab, 0, none⟩ (.int .i64 rr.1)).setCell ⟨ab, 1, none⟩ (.int .i64 rr.2.1)) (a := ⟨ab, 2, none⟩) (v := .string rr.2.2) n3).trans ((hpFar (w := V7.setCell ⟨ab, 0, none⟩ (.int .i64 rr.1)) (a := ⟨ab, 1, none⟩) (v := .int .i64 rr.2.1) n3).trans ((hpFar (a := ⟨ab, 0, none⟩) (v := .int .i64 rr.1) n3).trans bB9.out))
              generalize hV9 : ((V7.setCell ⟨ab, 0, none⟩ (.int .i64 rr.1)).setCell ⟨ab, 1, none⟩ (.int .i64 rr.2.1)).setCell ⟨ab, 2, none⟩ (.string rr.2.2) = V9 at qf sf fS fC fP fB ⊢
              refine hK.out _ _ ⟨fS, fC, fP⟩ (fun hH => ?_)
              clear hK K e0 e1 e2 ef ex
              refine tl 13 hH ?_
              refine wpAnyH_done (by kernel_rfl) ?_ _
              clear hH
              exact hfin _ _ ⟨hge.out, qf, ⟨p', sf, hsv, hnf.out, hnf1.out, hnfc.out⟩, fC, fB⟩
             exact AllReadyH.nil
            exact AllReadyH.nil
           refine AllReadyH.cons rfl (fun K hK => ?_) ?_
           ·
            clear hH
            rw [← hV6.out]
            go_simp
            obtain ⟨V7, hVV⟩ : ∃ Z, Z = V6.alloc (.cells #[.int .i64 0, .int .i64 0, .string ⟨#[]⟩] 52) := ⟨_, rfl⟩
            have bb : Below V6.heap.size V6 V7 := by rw [hVV]; exact (Below.refl _ _).alloc (Nat.le_refl _) _
            obtain ⟨ab, hab⟩ : ∃ n, n = V6.heap.size := ⟨_, rfl⟩
            have qa7 := Lh (show V7.heap[ab]? = some (.cells #[.int .i64 0, .int .i64 0, .string ⟨#[]⟩] 52 (0, 0)) from by rw [hVV, hab]; exact hpNew _ _)
            have hge := Lh (show v.heap.size ≤ ab from by rw [hab]; exact (k1.out.trans (k6.out.mono k1.out.size)).size)
            have hgw := Lh (show W1.heap.size ≤ ab from by rw [hab]; exact k6.out.size)
            have d7 := Lh ((bb.block _ (blkX d6.out)).trans d6.out)
            have kb7 := Lh (k6.out.trans (bb.mono k6.out.size))
            have g7 := Lh ((bb.block _ (blkX g6.out)).trans g6.out)
            have qp7 := Lh ((bb.block _ (blkX qp6.out)).trans qp6.out)
            clear bb
            rw [← hVV, ← hab]
            replace hVV := Lh hVV; replace hab := Lh hab
            refine hK.out _ _ ⟨(h1.out.below kb7.out).blk, g7.out, qp7.out⟩ (fun hH => ?_)
            clear hK K
            refine wpAnyH_ready (rs := [7]) (by kernel_rfl) (by simp) ?_
            refine AllReadyH.cons rfl (fun K hK => ?_) ?_
            ·
             clear hH
             go_simp
             refine (hphc.out _ kb7.out).mono ?_
             rintro e V8 ⟨rfl, p', sh, hsv⟩
             have s8 := sh.pre (k1.out.trans (kb7.out.mono k1.out.size))
             have bS := s8.sh.blk
             rw [s8.same, hsv] at bS
             have bB := Lh (sh.blk d7.out (h.out.out (by omega)))
             have hnf1 := Lh (sh.nfoot h.out (k := v.heap.size + 1) (by omega) (blkX d7.out))
             have hnfc := Lh (sh.nfoot h.out (k := v.heap.size) (Nat.le_refl _) (blkX g7.out))
             have bC := sh.blk g7.out (h.out.out (Nat.le_refl _))
             have bP := sh.blk qp7.out (h.out.out hpbv.out)
             have qa8 := Lh (sh.blk qa7.out (h.out.out hge.out))
             have hnf := Lh (sh.nfoot h.out hge.out (blkX qa7.out))
             replace s8 := Lh s8
             clear sh
             refine hK.out _ _ ⟨bS, bC, bP⟩ (fun hH => ?_)
             clear hK K
             replace bS := Lh bS; replace bC := Lh bC; replace bP := Lh bP
             refine tl 8 hH ?_
             refine tl 9 hH ?_
             refine tl 10 hH ?_
             refine wpAnyH_ready (rs := [12]) (by kernel_rfl) (by simp) ?_
             refine AllReadyH.cons rfl (fun K hK => ?_) ?_
             ·
              clear hH
              have e0 := blkC qa8.out 0; have e1 := blkC qa8.out 1; have e2 := blkC qa8.out 2; have ef := blkF qa8.out; have ex := blkX qa8.out
              simp only [List.getElem?_toArray, List.getElem?_cons_zero, List.getElem?_cons_succ] at e0 e1 e2
              go_simp
              have qf := hpSet (i := 2) (v := .string rr.2.2) (hpSet (i := 1) (v := .int .i64 rr.2.1) (hpSet (i := 0) (v := .int .i64 rr.1) qa8.out))
              simp only [List.setIfInBounds_toArray, List.set_cons_succ, List.set_cons_zero] at qf
              have sf : ShTo base p p' xx v (((V8.setCell ⟨ab, 0, none⟩ (.int .i64 rr.1)).setCell ⟨ab, 1, none⟩ (.int .i64 rr.2.1)).setCell ⟨ab, 2, none⟩ (.string rr.2.2)) := (ShTo.set (ShTo.set (ShTo.set s8.out (a := ⟨ab, 0, none⟩) hge.out hnf.out _) (a := ⟨ab, 1, none⟩) hge.out hnf.out _) (a := ⟨ab, 2, none⟩) hge.out hnf.out _)
              have fS := sf.sh.blk
              rw [sf.same, hsv] at fS
              have n1 : v.heap.size ≠ ab := by have := qa8.out; rintro rfl; rw [bC.out] at this; injection this with this; injection this with _ this; exact absurd this (by decide)
              have n2 : pb ≠ ab := by have := qa8.out; rintro rfl; rw [bP.out] at this; injection this with this; injection this with _ this; exact absurd this (by decide)
              have fC := (hpFar (w := (V8.setCell ⟨ab, 0, none⟩ (.int .i64 rr.1)).setCell ⟨ab, 1, none⟩ (.int .i64 rr.2.1)) (a := ⟨ab, 2, none⟩) (v := .string rr.2.2) n1).trans ((hpFar (w := V8.setCell ⟨ab, 0, none⟩ (.int .i64 rr.1)) (a := ⟨ab, 1, none⟩) (v := .int .i64 rr.2.1) n1).trans ((hpFar (a := ⟨ab, 0, none⟩) (v := .int .i64 rr.1) n1).trans bC.out))
              have fP := (hpFar (w := (V8.setCell ⟨ab, 0, none⟩ (.int .i64 rr.1)).setCell ⟨ab, 1, none⟩ (.int .i64 rr.2.1)) (a := ⟨ab, 2, none⟩) (v := .string rr.2.2) n2).trans ((hpFar (w := V8.setCell ⟨ab, 0, none⟩ (.int .i64 rr.1)) (a := ⟨ab, 1, none⟩) (v := .int .i64 rr.2.1) n2).trans ((hpFar (a := ⟨ab, 0, none⟩) (v := .int .i64 rr.1) n2).trans bP.out))
              have n3 : v.heap.size + 1 ≠ ab := by have := hgw.out; have := hx1.out; omega
              have fB := (hpFar (w := (V8.setCell ⟨ab, 0, none⟩ (.int .i64 rr.1)).setCell ⟨ab, 1, none⟩ (.int .i64 rr.2.1)) (a := ⟨ab, 2, none⟩) (v := .string rr.2.2) n3).trans ((hpFar (w := V8.setCell ⟨ab, 0, none⟩ (.int .i64 rr.1)) (a := ⟨ab, 1, none⟩) (v := .int .i64 rr.2.1) n3).trans ((hpFar (a := ⟨ab, 0, none⟩) (v := .int .i64 rr.1) n3).trans bB.out))
              generalize hV9 : ((V8.setCell ⟨ab, 0, none⟩ (.int .i64 rr.1)).setCell ⟨ab, 1, none⟩ (.int .i64 rr.2.1)).setCell ⟨ab, 2, none⟩ (.string rr.2.2) = V9 at qf sf fS fC fP fB ⊢
              refine hK.out _ _ ⟨fS, fC, fP⟩ (fun hH => ?_)
              clear hK K e0 e1 e2 ef ex
              refine tl 13 hH ?_
              refine wpAnyH_done (by kernel_rfl) ?_ _
              clear hH
              exact hfin _ _ ⟨hge.out, qf, ⟨p', sf, hsv, hnf.out, hnf1.out, hnfc.out⟩, fC, fB⟩
             exact AllReadyH.nil
            exact AllReadyH.nil
           exact AllReadyH.nil
          ·
           rintro V9 ab ⟨hge, qf, ⟨p', sf, hsv, hnf, hnf1, hnfc⟩, fC, fB⟩
           have z0 := blkC qf 0; have z1 := blkC qf 1; have z2 := blkC qf 2; have zx := blkX qf
           simp only [List.getElem?_toArray, List.getElem?_cons_zero, List.getElem?_cons_succ] at z0 z1 z2
           have sfh := sf.sh
           have hD : p'.D = p.D := by have := congrArg (fun a => a[4]?) hsv; simpa [shV] using this
           have fS := sf.sh.blk
           rw [sf.same, hsv] at fS
           replace sf := Lh sf; replace hsv := Lh hsv; replace hnf := Lh hnf; replace hnf1 := Lh hnf1; replace hnfc := Lh hnfc; replace fS := Lh fS; replace sfh := Lh sfh; replace hD := Lh hD
           cases rk with
           | false =>
            have hkx1 : Hid (keepX x c = xx) := Lh (by rw [hkx.out]; rfl)
            have q_0 := blkC fB 0
            have q_1 := blkC fB 1
            have q_2 := blkC fB 2
            have q_f := blkF fB; have q_x := blkX fB
            simp only [List.getElem?_toArray, List.getElem?_cons_zero, List.getElem?_cons_succ] at q_0 q_1 q_2
            replace fB := Lh fB; replace fC := Lh fC; replace qf := Lh qf
            go_wp2_with (fail)
            refine bodyPost_ret (by simp [results, Tryz.results28, go_sem, *]; try with_reducible rfl) rfl ?_
            refine ⟨by rw [← hrr.out], p', ?_⟩
            rw [hkx1.out]
            exact (ShTo.set (ShTo.set (ShTo.set sf.out (a := ⟨v.heap.size + 1, 0, none⟩) (by simp only; omega) hnf1.out _) (a := ⟨v.heap.size + 1, 1, none⟩) (by simp only; omega) hnf1.out _) (a := ⟨v.heap.size + 1, 2, none⟩) (by simp only; omega) hnf1.out _)
           | true =>
            have hkx1 : Hid (keepX x c = { xx with mem := putL 2048 xx.mem ⟨c.e, c.key, rr⟩ }) := Lh (by rw [hkx.out]; rfl)
            replace fB := Lh fB; replace fC := Lh fC; replace qf := Lh qf
            clear z0 z1 z2 zx
            go_wp2_with (fail)
            obtain ⟨V10, hV10⟩ : ∃ W, W = V9.drew := ⟨_, rfl⟩
            have bd : Below V9.heap.size V9 V10 := by rw [hV10]; exact (Below.refl _ _).drew
            have tS := Lh ((bd.block _ (blkX fS.out)).trans fS.out)
            have tC := Lh ((bd.block _ (blkX fC.out)).trans fC.out)
            have tB := Lh ((bd.block _ (blkX fB.out)).trans fB.out)
            have tA := Lh ((bd.block _ (blkX qf.out)).trans qf.out)
            have st := Lh (sf.out.thenB bd)
            have hbt := Lh (Nat.le_trans hbv st.out.chg.size)
            have hput := st.out.sh.putMem hbt.out c.e c.key rr hk
            rw [hD.out] at hput
            replace hput := Lh hput; replace hV10 := Lh hV10
            clear bd
            refine wp_region_held_drew (S := (fun W' : World => W'.heap[p.S]? = some (.cells (shV p x) 88 (0, 0)) ∧ W'.heap[v.heap.size]? = some (.cells (cdV c) 40 (0, 0)) ∧ W'.heap[ab]? = some (.cells #[.int .i64 rr.1, .int .i64 rr.2.1, .string rr.2.2] 52 (0, 0)))) (by kernel_rfl) ?_ (fun hH => ?_)
            ·
             rw [← hV10.out]
             exact ⟨tS.out, tC.out, tA.out⟩
            refine tl 0 hH ?_
            refine tl 1 hH ?_
            refine tl 2 hH ?_
            refine tk (i := 3) (v := ?_) (hy := .inl ⟨by rfl, by intro w hSw; obtain ⟨sS, sC, sA⟩ := hSw; have t0 : w.cell? ⟨p.S, 4, none⟩ = some (.pointer (some ⟨p.D, 0, none⟩)) := blkC sS 4; go_simp; first | done | with_reducible rfl⟩) (hS := hH) (h := ?_)
            refine tl 4 hH ?_
            refine tk (i := 5) (v := ?_) (hy := .inl ⟨by rfl, by intro w hSw; obtain ⟨sS, sC, sA⟩ := hSw; have t0 : w.cell? ⟨v.heap.size, 3, none⟩ = some (.int .i64 c.e.1) := blkC sC 3; have t1 : w.cell? ⟨v.heap.size, 4, none⟩ = some (.int .i64 c.e.2.1) := blkC sC 4; have t2 : w.cell? ⟨v.heap.size, 5, none⟩ = some (.int .i64 c.e.2.2) := blkC sC 5; go_simp; first | done | with_reducible rfl⟩) (hS := hH) (h := ?_)
            refine tl 6 hH ?_
            refine tk (i := 7) (v := ?_) (hy := .inl ⟨by rfl, by intro w hSw; obtain ⟨sS, sC, sA⟩ := hSw; have t0 : w.cell? ⟨v.heap.size, 6, none⟩ = some (.string c.key) := blkC sC 6; go_simp; first | done | with_reducible rfl⟩) (hS := hH) (h := ?_)
            refine tk (i := 8) (v := ?_) (hy := .inl ⟨by rfl, by intro w hSw; obtain ⟨sS, sC, sA⟩ := hSw; have t0 : w.cell? ⟨ab, 0, none⟩ = some (.int .i64 rr.1) := blkC sA 0; have t1 : w.cell? ⟨ab, 1, none⟩ = some (.int .i64 rr.2.1) := blkC sA 1; have t2 : w.cell? ⟨ab, 2, none⟩ = some (.string rr.2.2) := blkC sA 2; go_simp; first | done | with_reducible rfl⟩) (hS := hH) (h := ?_)
            refine wpAnyH_ready (rs := [9]) (by kernel_rfl) (by simp) ?_
            refine AllReadyH.cons rfl (fun K hK => ?_) ?_
            ·
             clear hH
             rw [← hV10.out]
             go_simp
             refine hput.out.mono ?_
             rintro e V11 ⟨rfl, p2, s2, hs2⟩
             have uB := s2.blk tB.out hnf1.out
             have uA := s2.blk tA.out hnf.out
             have uC := s2.blk tC.out hnfc.out
             have uS := s2.sh.blk
             rw [s2.same, hs2, st.out.same, hsv.out] at uS
             have hnf2 : ¬ p2.foot (v.heap.size + 1) := fun q => (s2.new _ q).elim hnf1.out (fun e => by have := blkX tB.out; omega)
             have z0 := blkC uA 0; have z1 := blkC uA 1; have z2 := blkC uA 2; have zx := blkX uA
             simp only [List.getElem?_toArray, List.getElem?_cons_zero, List.getElem?_cons_succ] at z0 z1 z2
             have q_0 := blkC uB 0
             have q_1 := blkC uB 1
             have q_2 := blkC uB 2
             have q_f := blkF uB; have q_x := blkX uB
             simp only [List.getElem?_toArray, List.getElem?_cons_zero, List.getElem?_cons_succ] at q_0 q_1 q_2
             replace hnf2 := Lh hnf2; replace s2 := Lh s2
             refine hK.out _ _ ⟨uS, uC, uA⟩ (fun hH => ?_)
             clear hK K
             replace uB := Lh uB; replace uA := Lh uA; replace uC := Lh uC; replace uS := Lh uS
             refine wpAnyH_done (by kernel_rfl) ?_ _
             clear hH
             go_wp2_with (fail)
             refine bodyPost_ret (by simp [results, Tryz.results28, go_sem, *]; try with_reducible rfl) rfl ?_
             refine ⟨by rw [← hrr.out], p2, ?_⟩
             rw [hkx1.out]
             exact (ShTo.set (ShTo.set (ShTo.set (st.out.trans s2.out) (a := ⟨v.heap.size + 1, 0, none⟩) (by simp only; omega) hnf2.out _) (a := ⟨v.heap.size + 1, 1, none⟩) (by simp only; omega) hnf2.out _) (a := ⟨v.heap.size + 1, 2, none⟩) (by simp only; omega) hnf2.out _)
            exact AllReadyH.nil
        ·
         have hp3 := decide_eq_false hp2
         replace hp2 := Lh hp2
         have hnd : needR x c = 1 := by unfold needR; rw [← hfb.out, hp3]; rfl
         have hpe : (c.e.2.2 == 2) = false := hp3
         go_wp2_with (fail)
         refine (hrm.out _ kx.out).mono ?_
         rintro e V4 ⟨rfl, b4⟩
         have kx4 := Lh (kx.out.trans (b4.mono kx.out.size))
         clear b4 kx
         have kx := kx4
         clear kx4 z3 z4 z5 c4 hlt3 hxw hpe
         by_cases hrl : 2048 - (ml : Int) < 1
         ·
          have e1 : fr = (4, 0, noText) := by rw [hfr.out, ← hfa.out, how, hnc, hnd, ← hml]; simp [hrl]
          have e3 : fx = x := by rw [hfx.out, ← hfa.out, how, hnc, hnd, ← hml]; simp [hrl]
          subst e1; subst e3
          go_wp2_with (fail)
          refine (refused_any 4 _).mono ?_
          rintro e V8 ⟨rfl, b8⟩
          have k8 := Lh (kx.out.trans (b8.mono kx.out.size))
          have e1 := (k8.out.block _ (blkX b1.out)).trans b1.out
          have s0 := blkC e1 0
          have s1 := blkC e1 1
          have s2 := blkC e1 2
          have sf := blkF e1; have sx := blkX e1
          simp only [List.getElem?_toArray, List.getElem?_cons_zero, List.getElem?_cons_succ] at s0 s1 s2
          replace e1 := Lh e1
          clear b8
          go_wp2_with (fail)
          refine bodyPost_ret (by simp [results, Tryz.results28, go_sem, *]; try with_reducible rfl) rfl ?_
          exact ⟨rfl, p, (ShTo.set (ShTo.set (ShTo.set (ShTo.below h.out (k1.out.trans (k8.out.mono k1.out.size))) (a := ⟨v.heap.size + 1, 0, none⟩) (by simp only; omega) (h.out.out (by simp only; omega)) _) (a := ⟨v.heap.size + 1, 1, none⟩) (by simp only; omega) (h.out.out (by simp only; omega)) _) (a := ⟨v.heap.size + 1, 2, none⟩) (by simp only; omega) (h.out.out (by simp only; omega)) _)⟩
         ·
          have e1 : fr = phR x c := by rw [hfr.out, ← hfa.out, how, hnc, hnd, ← hml]; simp [hrl]
          have e3 : fx = keepX x c := by rw [hfx.out, ← hfa.out, how, hnc, hnd, ← hml]; simp [hrl]
          subst e1; subst e3
          go_wp2_with (fail)
          obtain ⟨V5, hV5⟩ : ∃ Z, Z = V4.alloc (.cells #[.nilFunc, .func (.func 67) #[] #[], .func (.func 68) #[] #[], .func (.func 69) #[] #[]] 132) := ⟨_, rfl⟩
          have b5 : Below V4.heap.size V4 V5 := by rw [hV5]; exact (Below.refl _ _).alloc (Nat.le_refl _) _
          obtain ⟨pb, hpb⟩ : ∃ n, n = V4.heap.size := ⟨_, rfl⟩
          have qp : V5.heap[pb]? = some (.cells #[.nilFunc, .func (.func 67) #[] #[], .func (.func 68) #[] #[], .func (.func 69) #[] #[]] 132 (0, 0)) := by rw [hV5, hpb]; exact hpNew _ _
          rw [← hV5, ← hpb]
          obtain ⟨V6, hV6⟩ : ∃ W, W = V5.drew := ⟨_, rfl⟩
          have b6 : Below V5.heap.size V5 V6 := by rw [hV6]; exact (Below.refl _ _).drew
          have k6 := kx.out.trans ((b5.trans (b6.mono b5.size)).mono kx.out.size)
          have qp6 := (b6.block _ (blkX qp)).trans qp
          have s6 := h1.out.below k6
          have g6 := (k6.block _ (blkX b0.out)).trans b0.out
          have d6 := (k6.block _ (blkX b1.out)).trans b1.out
          have hx1 := blkX b1.out
          have hwv := k1.out.size
          have hpbv : v.heap.size ≤ pb := by rw [hpb]; exact (k1.out.trans (kx.out.mono k1.out.size)).size
          have hi0 : (0 : Int) ≤ c.e.2.2 := by have := hph.out; omega
          have hi1 : c.e.2.2 < 4 := by have := hph.out; omega
          have hphc := hg3.out
          obtain ⟨rr, hrr⟩ : ∃ z, z = phR x c := ⟨_, rfl⟩
          obtain ⟨rk, hrk⟩ : ∃ z, z = phK x c := ⟨_, rfl⟩
          obtain ⟨xx, hxx⟩ : ∃ z, z = phX x c := ⟨_, rfl⟩
          have hkx : keepX x c = if rk then { xx with mem := putL 2048 xx.mem ⟨c.e, c.key, rr⟩ } else xx := by rw [hrr, hrk, hxx]; rfl
          skip
          unfold PhTo repV at hphc
          simp only [← hrr, ← hrk, ← hxx] at hphc
          replace hphc := Lh hphc; replace hV5 := Lh hV5; replace hpb := Lh hpb; replace qp := Lh qp; replace qp6 := Lh qp6; replace hV6 := Lh hV6; replace b5 := Lh b5; replace b6 := Lh b6; replace k6 := Lh k6; replace s6 := Lh s6; replace g6 := Lh g6; replace d6 := Lh d6; replace hx1 := Lh hx1; replace hwv := Lh hwv; replace hpbv := Lh hpbv; replace hkx := Lh hkx; replace hrr := Lh hrr; replace hrk := Lh hrk; replace hxx := Lh hxx
          apply joinArms (F := fun V ab => v.heap.size ≤ ab ∧ V.heap[ab]? = some (.cells #[.int .i64 rr.1, .int .i64 rr.2.1, .string rr.2.2] 52 (0, 0)) ∧ (∃ p', ShTo base p p' xx v V ∧ shV p' xx = shV p x ∧ ¬ p'.foot ab ∧ ¬ p'.foot (v.heap.size + 1) ∧ ¬ p'.foot v.heap.size) ∧ V.heap[v.heap.size]? = some (.cells (cdV c) 40 (0, 0)) ∧ V.heap[v.heap.size + 1]? = some (.cells #[.int .i64 0, .int .i64 0, .string ⟨#[]⟩] 52 (0, 0)))
          ·
           intro hfin
           refine wp_region_held_drew (S := (fun W' : World => W'.heap[p.S]? = some (.cells (shV p x) 88 (0, 0)) ∧ W'.heap[v.heap.size]? = some (.cells (cdV c) 40 (0, 0)) ∧ W'.heap[pb]? = some (.cells #[.nilFunc, .func (.func 67) #[] #[], .func (.func 68) #[] #[], .func (.func 69) #[] #[]] 132 (0, 0)))) (by kernel_rfl) ?_ (fun hH => ?_)
           ·
            rw [← hV6.out]
            exact ⟨s6.out.blk, g6.out, qp6.out⟩
           refine tl 0 hH ?_
           refine tl 1 hH ?_
           refine tk (i := 2) (v := ?_) (hy := .inl ⟨by rfl, by intro w hSw; obtain ⟨sS, sC, sP⟩ := hSw; have t0 : w.cell? ⟨v.heap.size, 5, none⟩ = some (.int .i64 c.e.2.2) := blkC sC 5; go_simp; first | done | with_reducible rfl⟩) (hS := hH) (h := ?_)
           refine tl 3 hH ?_
           refine tk (i := 4) (v := ?_) (hy := .inl ⟨by rfl, by intro w hSw; obtain ⟨sS, sC, sP⟩ := hSw; have t0 : w.cell? ⟨pb, c.e.2.2.toNat, none⟩ = some (.func (.func g) #[] #[]) := (blkC sP c.e.2.2.toNat).trans hg1.out; go_simp; first | done | with_reducible rfl⟩) (hS := hH) (h := ?_)
           refine tl 5 hH ?_
           refine tk (i := 6) (v := ?_) (hy := .inl ⟨by rfl, by intro w hSw; obtain ⟨sS, sC, sP⟩ := hSw; have hld := cd_load sC; go_simp; first | done | with_reducible rfl⟩) (hS := hH) (h := ?_)
           refine wpAnyH_ready (rs := [7, 11]) (by kernel_rfl) (by simp) ?_
           refine AllReadyH.cons rfl (fun K hK => ?_) ?_
           ·
            clear hH
            rw [← hV6.out]
            go_simp
            refine (hphc.out _ k6.out).mono ?_
            rintro e V8 ⟨rfl, p', sh, hsv⟩
            have s8 := sh.pre (k1.out.trans (k6.out.mono k1.out.size))
            have bS := s8.sh.blk
            rw [s8.same, hsv] at bS
            have bB := Lh (sh.blk d6.out (h.out.out (by omega)))
            have hnf1 := Lh (sh.nfoot h.out (k := v.heap.size + 1) (by omega) (blkX d6.out))
            have hnfc := Lh (sh.nfoot h.out (k := v.heap.size) (Nat.le_refl _) (blkX g6.out))
            have hz8 := Lh (Nat.le_trans k6.out.size sh.chg.size)
            have bC := sh.blk g6.out (h.out.out (Nat.le_refl _))
            have bP := sh.blk qp6.out (h.out.out hpbv.out)
            replace s8 := Lh s8
            clear sh
            refine hK.out _ _ ⟨bS, bC, bP⟩ (fun hH => ?_)
            clear hK K
            replace bS := Lh bS; replace bC := Lh bC; replace bP := Lh bP
            refine tl 8 hH ?_
            refine tl 9 hH ?_
            refine tl 10 hH ?_
            refine wpAnyH_ready (rs := [11]) (by kernel_rfl) (by simp) ?_
            refine AllReadyH.cons rfl (fun K hK => ?_) ?_
            ·
             clear hH
             go_simp
             obtain ⟨V7, hVV⟩ : ∃ Z, Z = V8.alloc (.cells #[.int .i64 0, .int .i64 0, .string ⟨#[]⟩] 52) := ⟨_, rfl⟩
             have bb : Below V8.heap.size V8 V7 := by rw [hVV]; exact (Below.refl _ _).alloc (Nat.le_refl _) _
             obtain ⟨ab, hab⟩ : ∃ n, n = V8.heap.size := ⟨_, rfl⟩
             have qa8 := Lh (show V7.heap[ab]? = some (.cells #[.int .i64 0, .int .i64 0, .string ⟨#[]⟩] 52 (0, 0)) from by rw [hVV, hab]; exact hpNew _ _)
             have hge := Lh (show v.heap.size ≤ ab from by rw [hab]; exact s8.out.chg.size)
             have hnf := Lh (show ¬ p'.foot ab from by rw [hab]; exact s8.out.sh.out (Nat.le_refl _))
             have hgw := Lh (show W1.heap.size ≤ ab from by rw [hab]; exact hz8.out)
             have bB9 := Lh ((bb.block _ (blkX bB.out)).trans bB.out)
             have s9 := Lh (s8.out.thenB bb)
             have bC9 := Lh ((bb.block _ (blkX bC.out)).trans bC.out)
             have bP9 := Lh ((bb.block _ (blkX bP.out)).trans bP.out)
             have bS9 := Lh ((bb.block _ (blkX bS.out)).trans bS.out)
             clear bb
             rw [← hVV, ← hab]
             replace hVV := Lh hVV; replace hab := Lh hab
             refine hK.out _ _ ⟨bS9.out, bC9.out, bP9.out⟩ (fun hH => ?_)
             clear hK K
             refine wpAnyH_ready (rs := [12]) (by kernel_rfl) (by simp) ?_
             refine AllReadyH.cons rfl (fun K hK => ?_) ?_
             ·
              clear hH
              have e0 := blkC qa8.out 0; have e1 := blkC qa8.out 1; have e2 := blkC qa8.out 2; have ef := blkF qa8.out; have ex := blkX qa8.out
              simp only [List.getElem?_toArray, List.getElem?_cons_zero, List.getElem?_cons_succ] at e0 e1 e2
              go_simp
              have qf := hpSet (i := 2) (v := .string rr.2.2) (hpSet (i := 1) (v := .int .i64 rr.2.1) (hpSet (i := 0) (v := .int .i64 rr.1) qa8.out))
              simp only [List.setIfInBounds_toArray, List.set_cons_succ, List.set_cons_zero] at qf
              have sf : ShTo base p p' xx v (((V7.setCell ⟨ab, 0, none⟩ (.int .i64 rr.1)).setCell ⟨ab, 1, none⟩ (.int .i64 rr.2.1)).setCell ⟨ab, 2, none⟩ (.string rr.2.2)) := (ShTo.set (ShTo.set (ShTo.set s9.out (a := ⟨ab, 0, none⟩) hge.out hnf.out _) (a := ⟨ab, 1, none⟩) hge.out hnf.out _) (a := ⟨ab, 2, none⟩) hge.out hnf.out _)
              have fS := sf.sh.blk
              rw [sf.same, hsv] at fS
              have n1 : v.heap.size ≠ ab := by have := qa8.out; rintro rfl; rw [bC9.out] at this; injection this with this; injection this with _ this; exact absurd this (by decide)
              have n2 : pb ≠ ab := by have := qa8.out; rintro rfl; rw [bP9.out] at this; injection this with this; injection this with _ this; exact absurd this (by decide)
              have fC := (hpFar (w := (V7.setCell ⟨ab, 0, none⟩ (.int .i64 rr.1)).setCell ⟨ab, 1, none⟩ (.int .i64 rr.2.1)) (a := ⟨ab, 2, none⟩) (v := .string rr.2.2) n1).trans ((hpFar (w := V7.setCell ⟨ab, 0, none⟩ (.int .i64 rr.1)) (a := ⟨ab, 1, none⟩) (v := .int .i64 rr.2.1) n1).trans ((hpFar (a := ⟨ab, 0, none⟩) (v := .int .i64 rr.1) n1).trans bC9.out))
              have fP := (hpFar (w := (V7.setCell ⟨ab, 0, none⟩ (.int .i64 rr.1)).setCell ⟨ab, 1, none⟩ (.int .i64 rr.2.1)) (a := ⟨ab, 2, none⟩) (v := .string rr.2.2) n2).trans ((hpFar (w := V7.setCell ⟨ab, 0, none⟩ (.int .i64 rr.1)) (a := ⟨ab, 1, none⟩) (v := .int .i64 rr.2.1) n2).trans ((hpFar (a := ⟨ab, 0, none⟩) (v := .int .i64 rr.1) n2).trans bP9.out))
              have n3 : v.heap.size + 1 ≠ ab := by have := hgw.out; have := hx1.out; omega
              have fB := (hpFar (w := (V7.setCell ⟨ab, 0, none⟩ (.int .i64 rr.1)).setCell ⟨ab, 1, none⟩ (.int .i64 rr.2.1)) (a := ⟨ab, 2, none⟩) (v := .string rr.2.2) n3).trans ((hpFar (w := V7.setCell ⟨ab, 0, none⟩ (.int .i64 rr.1)) (a := ⟨ab, 1, none⟩) (v := .int .i64 rr.2.1) n3).trans ((hpFar (a := ⟨ab, 0, none⟩) (v := .int .i64 rr.1) n3).trans bB9.out))
              generalize hV9 : ((V7.setCell ⟨ab, 0, none⟩ (.int .i64 rr.1)).setCell ⟨ab, 1, none⟩ (.int .i64 rr.2.1)).setCell ⟨ab, 2, none⟩ (.string rr.2.2) = V9 at qf sf fS fC fP fB ⊢
              refine hK.out _ _ ⟨fS, fC, fP⟩ (fun hH => ?_)
              clear hK K e0 e1 e2 ef ex
              refine tl 13 hH ?_
              refine wpAnyH_done (by kernel_rfl) ?_ _
              clear hH
              exact hfin _ _ ⟨hge.out, qf, ⟨p', sf, hsv, hnf.out, hnf1.out, hnfc.out⟩, fC, fB⟩
             exact AllReadyH.nil
            exact AllReadyH.nil
           refine AllReadyH.cons rfl (fun K hK => ?_) ?_
           ·
            clear hH
            rw [← hV6.out]
            go_simp
            obtain ⟨V7, hVV⟩ : ∃ Z, Z = V6.alloc (.cells #[.int .i64 0, .int .i64 0, .string ⟨#[]⟩] 52) := ⟨_, rfl⟩
            have bb : Below V6.heap.size V6 V7 := by rw [hVV]; exact (Below.refl _ _).alloc (Nat.le_refl _) _
            obtain ⟨ab, hab⟩ : ∃ n, n = V6.heap.size := ⟨_, rfl⟩
            have qa7 := Lh (show V7.heap[ab]? = some (.cells #[.int .i64 0, .int .i64 0, .string ⟨#[]⟩] 52 (0, 0)) from by rw [hVV, hab]; exact hpNew _ _)
            have hge := Lh (show v.heap.size ≤ ab from by rw [hab]; exact (k1.out.trans (k6.out.mono k1.out.size)).size)
            have hgw := Lh (show W1.heap.size ≤ ab from by rw [hab]; exact k6.out.size)
            have d7 := Lh ((bb.block _ (blkX d6.out)).trans d6.out)
            have kb7 := Lh (k6.out.trans (bb.mono k6.out.size))
            have g7 := Lh ((bb.block _ (blkX g6.out)).trans g6.out)
            have qp7 := Lh ((bb.block _ (blkX qp6.out)).trans qp6.out)
            clear bb
            rw [← hVV, ← hab]
            replace hVV := Lh hVV; replace hab := Lh hab
            refine hK.out _ _ ⟨(h1.out.below kb7.out).blk, g7.out, qp7.out⟩ (fun hH => ?_)
            clear hK K
            refine wpAnyH_ready (rs := [7]) (by kernel_rfl) (by simp) ?_
            refine AllReadyH.cons rfl (fun K hK => ?_) ?_
            ·
             clear hH
             go_simp
             refine (hphc.out _ kb7.out).mono ?_
             rintro e V8 ⟨rfl, p', sh, hsv⟩
             have s8 := sh.pre (k1.out.trans (kb7.out.mono k1.out.size))
             have bS := s8.sh.blk
             rw [s8.same, hsv] at bS
             have bB := Lh (sh.blk d7.out (h.out.out (by omega)))
             have hnf1 := Lh (sh.nfoot h.out (k := v.heap.size + 1) (by omega) (blkX d7.out))
             have hnfc := Lh (sh.nfoot h.out (k := v.heap.size) (Nat.le_refl _) (blkX g7.out))
             have bC := sh.blk g7.out (h.out.out (Nat.le_refl _))
             have bP := sh.blk qp7.out (h.out.out hpbv.out)
             have qa8 := Lh (sh.blk qa7.out (h.out.out hge.out))
             have hnf := Lh (sh.nfoot h.out hge.out (blkX qa7.out))
             replace s8 := Lh s8
             clear sh
             refine hK.out _ _ ⟨bS, bC, bP⟩ (fun hH => ?_)
             clear hK K
             replace bS := Lh bS; replace bC := Lh bC; replace bP := Lh bP
             refine tl 8 hH ?_
             refine tl 9 hH ?_
             refine tl 10 hH ?_
             refine wpAnyH_ready (rs := [12]) (by kernel_rfl) (by simp) ?_
             refine AllReadyH.cons rfl (fun K hK => ?_) ?_
             ·
              clear hH
              have e0 := blkC qa8.out 0; have e1 := blkC qa8.out 1; have e2 := blkC qa8.out 2; have ef := blkF qa8.out; have ex := blkX qa8.out
              simp only [List.getElem?_toArray, List.getElem?_cons_zero, List.getElem?_cons_succ] at e0 e1 e2
              go_simp
              have qf := hpSet (i := 2) (v := .string rr.2.2) (hpSet (i := 1) (v := .int .i64 rr.2.1) (hpSet (i := 0) (v := .int .i64 rr.1) qa8.out))
              simp only [List.setIfInBounds_toArray, List.set_cons_succ, List.set_cons_zero] at qf
              have sf : ShTo base p p' xx v (((V8.setCell ⟨ab, 0, none⟩ (.int .i64 rr.1)).setCell ⟨ab, 1, none⟩ (.int .i64 rr.2.1)).setCell ⟨ab, 2, none⟩ (.string rr.2.2)) := (ShTo.set (ShTo.set (ShTo.set s8.out (a := ⟨ab, 0, none⟩) hge.out hnf.out _) (a := ⟨ab, 1, none⟩) hge.out hnf.out _) (a := ⟨ab, 2, none⟩) hge.out hnf.out _)
              have fS := sf.sh.blk
              rw [sf.same, hsv] at fS
              have n1 : v.heap.size ≠ ab := by have := qa8.out; rintro rfl; rw [bC.out] at this; injection this with this; injection this with _ this; exact absurd this (by decide)
              have n2 : pb ≠ ab := by have := qa8.out; rintro rfl; rw [bP.out] at this; injection this with this; injection this with _ this; exact absurd this (by decide)
              have fC := (hpFar (w := (V8.setCell ⟨ab, 0, none⟩ (.int .i64 rr.1)).setCell ⟨ab, 1, none⟩ (.int .i64 rr.2.1)) (a := ⟨ab, 2, none⟩) (v := .string rr.2.2) n1).trans ((hpFar (w := V8.setCell ⟨ab, 0, none⟩ (.int .i64 rr.1)) (a := ⟨ab, 1, none⟩) (v := .int .i64 rr.2.1) n1).trans ((hpFar (a := ⟨ab, 0, none⟩) (v := .int .i64 rr.1) n1).trans bC.out))
              have fP := (hpFar (w := (V8.setCell ⟨ab, 0, none⟩ (.int .i64 rr.1)).setCell ⟨ab, 1, none⟩ (.int .i64 rr.2.1)) (a := ⟨ab, 2, none⟩) (v := .string rr.2.2) n2).trans ((hpFar (w := V8.setCell ⟨ab, 0, none⟩ (.int .i64 rr.1)) (a := ⟨ab, 1, none⟩) (v := .int .i64 rr.2.1) n2).trans ((hpFar (a := ⟨ab, 0, none⟩) (v := .int .i64 rr.1) n2).trans bP.out))
              have n3 : v.heap.size + 1 ≠ ab := by have := hgw.out; have := hx1.out; omega
              have fB := (hpFar (w := (V8.setCell ⟨ab, 0, none⟩ (.int .i64 rr.1)).setCell ⟨ab, 1, none⟩ (.int .i64 rr.2.1)) (a := ⟨ab, 2, none⟩) (v := .string rr.2.2) n3).trans ((hpFar (w := V8.setCell ⟨ab, 0, none⟩ (.int .i64 rr.1)) (a := ⟨ab, 1, none⟩) (v := .int .i64 rr.2.1) n3).trans ((hpFar (a := ⟨ab, 0, none⟩) (v := .int .i64 rr.1) n3).trans bB.out))
              generalize hV9 : ((V8.setCell ⟨ab, 0, none⟩ (.int .i64 rr.1)).setCell ⟨ab, 1, none⟩ (.int .i64 rr.2.1)).setCell ⟨ab, 2, none⟩ (.string rr.2.2) = V9 at qf sf fS fC fP fB ⊢
              refine hK.out _ _ ⟨fS, fC, fP⟩ (fun hH => ?_)
              clear hK K e0 e1 e2 ef ex
              refine tl 13 hH ?_
              refine wpAnyH_done (by kernel_rfl) ?_ _
              clear hH
              exact hfin _ _ ⟨hge.out, qf, ⟨p', sf, hsv, hnf.out, hnf1.out, hnfc.out⟩, fC, fB⟩
             exact AllReadyH.nil
            exact AllReadyH.nil
           exact AllReadyH.nil
          ·
           rintro V9 ab ⟨hge, qf, ⟨p', sf, hsv, hnf, hnf1, hnfc⟩, fC, fB⟩
           have z0 := blkC qf 0; have z1 := blkC qf 1; have z2 := blkC qf 2; have zx := blkX qf
           simp only [List.getElem?_toArray, List.getElem?_cons_zero, List.getElem?_cons_succ] at z0 z1 z2
           have sfh := sf.sh
           have hD : p'.D = p.D := by have := congrArg (fun a => a[4]?) hsv; simpa [shV] using this
           have fS := sf.sh.blk
           rw [sf.same, hsv] at fS
           replace sf := Lh sf; replace hsv := Lh hsv; replace hnf := Lh hnf; replace hnf1 := Lh hnf1; replace hnfc := Lh hnfc; replace fS := Lh fS; replace sfh := Lh sfh; replace hD := Lh hD
           cases rk with
           | false =>
            have hkx1 : Hid (keepX x c = xx) := Lh (by rw [hkx.out]; rfl)
            have q_0 := blkC fB 0
            have q_1 := blkC fB 1
            have q_2 := blkC fB 2
            have q_f := blkF fB; have q_x := blkX fB
            simp only [List.getElem?_toArray, List.getElem?_cons_zero, List.getElem?_cons_succ] at q_0 q_1 q_2
            replace fB := Lh fB; replace fC := Lh fC; replace qf := Lh qf
            go_wp2_with (fail)
            refine bodyPost_ret (by simp [results, Tryz.results28, go_sem, *]; try with_reducible rfl) rfl ?_
            refine ⟨by rw [← hrr.out], p', ?_⟩
            rw [hkx1.out]
            exact (ShTo.set (ShTo.set (ShTo.set sf.out (a := ⟨v.heap.size + 1, 0, none⟩) (by simp only; omega) hnf1.out _) (a := ⟨v.heap.size + 1, 1, none⟩) (by simp only; omega) hnf1.out _) (a := ⟨v.heap.size + 1, 2, none⟩) (by simp only; omega) hnf1.out _)
           | true =>
            have hkx1 : Hid (keepX x c = { xx with mem := putL 2048 xx.mem ⟨c.e, c.key, rr⟩ }) := Lh (by rw [hkx.out]; rfl)
            replace fB := Lh fB; replace fC := Lh fC; replace qf := Lh qf
            clear z0 z1 z2 zx
            go_wp2_with (fail)
            obtain ⟨V10, hV10⟩ : ∃ W, W = V9.drew := ⟨_, rfl⟩
            have bd : Below V9.heap.size V9 V10 := by rw [hV10]; exact (Below.refl _ _).drew
            have tS := Lh ((bd.block _ (blkX fS.out)).trans fS.out)
            have tC := Lh ((bd.block _ (blkX fC.out)).trans fC.out)
            have tB := Lh ((bd.block _ (blkX fB.out)).trans fB.out)
            have tA := Lh ((bd.block _ (blkX qf.out)).trans qf.out)
            have st := Lh (sf.out.thenB bd)
            have hbt := Lh (Nat.le_trans hbv st.out.chg.size)
            have hput := st.out.sh.putMem hbt.out c.e c.key rr hk
            rw [hD.out] at hput
            replace hput := Lh hput; replace hV10 := Lh hV10
            clear bd
            refine wp_region_held_drew (S := (fun W' : World => W'.heap[p.S]? = some (.cells (shV p x) 88 (0, 0)) ∧ W'.heap[v.heap.size]? = some (.cells (cdV c) 40 (0, 0)) ∧ W'.heap[ab]? = some (.cells #[.int .i64 rr.1, .int .i64 rr.2.1, .string rr.2.2] 52 (0, 0)))) (by kernel_rfl) ?_ (fun hH => ?_)
            ·
             rw [← hV10.out]
             exact ⟨tS.out, tC.out, tA.out⟩
            refine tl 0 hH ?_
            refine tl 1 hH ?_
            refine tl 2 hH ?_
            refine tk (i := 3) (v := ?_) (hy := .inl ⟨by rfl, by intro w hSw; obtain ⟨sS, sC, sA⟩ := hSw; have t0 : w.cell? ⟨p.S, 4, none⟩ = some (.pointer (some ⟨p.D, 0, none⟩)) := blkC sS 4; go_simp; first | done | with_reducible rfl⟩) (hS := hH) (h := ?_)
            refine tl 4 hH ?_
            refine tk (i := 5) (v := ?_) (hy := .inl ⟨by rfl, by intro w hSw; obtain ⟨sS, sC, sA⟩ := hSw; have t0 : w.cell? ⟨v.heap.size, 3, none⟩ = some (.int .i64 c.e.1) := blkC sC 3; have t1 : w.cell? ⟨v.heap.size, 4, none⟩ = some (.int .i64 c.e.2.1) := blkC sC 4; have t2 : w.cell? ⟨v.heap.size, 5, none⟩ = some (.int .i64 c.e.2.2) := blkC sC 5; go_simp; first | done | with_reducible rfl⟩) (hS := hH) (h := ?_)
            refine tl 6 hH ?_
            refine tk (i := 7) (v := ?_) (hy := .inl ⟨by rfl, by intro w hSw; obtain ⟨sS, sC, sA⟩ := hSw; have t0 : w.cell? ⟨v.heap.size, 6, none⟩ = some (.string c.key) := blkC sC 6; go_simp; first | done | with_reducible rfl⟩) (hS := hH) (h := ?_)
            refine tk (i := 8) (v := ?_) (hy := .inl ⟨by rfl, by intro w hSw; obtain ⟨sS, sC, sA⟩ := hSw; have t0 : w.cell? ⟨ab, 0, none⟩ = some (.int .i64 rr.1) := blkC sA 0; have t1 : w.cell? ⟨ab, 1, none⟩ = some (.int .i64 rr.2.1) := blkC sA 1; have t2 : w.cell? ⟨ab, 2, none⟩ = some (.string rr.2.2) := blkC sA 2; go_simp; first | done | with_reducible rfl⟩) (hS := hH) (h := ?_)
            refine wpAnyH_ready (rs := [9]) (by kernel_rfl) (by simp) ?_
            refine AllReadyH.cons rfl (fun K hK => ?_) ?_
            ·
             clear hH
             rw [← hV10.out]
             go_simp
             refine hput.out.mono ?_
             rintro e V11 ⟨rfl, p2, s2, hs2⟩
             have uB := s2.blk tB.out hnf1.out
             have uA := s2.blk tA.out hnf.out
             have uC := s2.blk tC.out hnfc.out
             have uS := s2.sh.blk
             rw [s2.same, hs2, st.out.same, hsv.out] at uS
             have hnf2 : ¬ p2.foot (v.heap.size + 1) := fun q => (s2.new _ q).elim hnf1.out (fun e => by have := blkX tB.out; omega)
             have z0 := blkC uA 0; have z1 := blkC uA 1; have z2 := blkC uA 2; have zx := blkX uA
             simp only [List.getElem?_toArray, List.getElem?_cons_zero, List.getElem?_cons_succ] at z0 z1 z2
             have q_0 := blkC uB 0
             have q_1 := blkC uB 1
             have q_2 := blkC uB 2
             have q_f := blkF uB; have q_x := blkX uB
             simp only [List.getElem?_toArray, List.getElem?_cons_zero, List.getElem?_cons_succ] at q_0 q_1 q_2
             replace hnf2 := Lh hnf2; replace s2 := Lh s2
             refine hK.out _ _ ⟨uS, uC, uA⟩ (fun hH => ?_)
             clear hK K
             replace uB := Lh uB; replace uA := Lh uA; replace uC := Lh uC; replace uS := Lh uS
             refine wpAnyH_done (by kernel_rfl) ?_ _
             clear hH
             go_wp2_with (fail)
             refine bodyPost_ret (by simp [results, Tryz.results28, go_sem, *]; try with_reducible rfl) rfl ?_
             refine ⟨by rw [← hrr.out], p2, ?_⟩
             rw [hkx1.out]
             exact (ShTo.set (ShTo.set (ShTo.set (st.out.trans s2.out) (a := ⟨v.heap.size + 1, 0, none⟩) (by simp only; omega) hnf2.out _) (a := ⟨v.heap.size + 1, 1, none⟩) (by simp only; omega) hnf2.out _) (a := ⟨v.heap.size + 1, 2, none⟩) (by simp only; omega) hnf2.out _)
            exact AllReadyH.nil
end Go.Proofs.YtgnjnpddehdmcaaGreatDoor
