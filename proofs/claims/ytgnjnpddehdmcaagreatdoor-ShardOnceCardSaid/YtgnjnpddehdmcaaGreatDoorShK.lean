/- The shard: undo. -/
import Derived.Test.YtgnjnpddehdmcaaGreatDoorShI
import Derived.Test.YtgnjnpddehdmcaaGreatDoorRowK
import Derived.Test.YtgnjnpddehdmcaaGreatDoorOwn
namespace Go.Proofs.YtgnjnpddehdmcaaGreatDoor
open Go.RowKit Go.Shelf
set_option linter.unusedSimpArgs false
set_option linter.unusedVariables false
set_option linter.unusedSectionVars false
set_option maxRecDepth 10000
attribute [-go_sem] Instr.loadAt
attribute [local go_sem] loadAt_other
def repV (r : Rp) (b : Bool) : Value := .tuple #[.agg #[.int .i64 r.1, .int .i64 r.2.1, .string r.2.2], .bool b]
def chgR (x : Sh) (c : Cd) : Rp := (stApE x.cnt c.key c.e.2.2 c.dl, stApN x.cnt c.key c.e.2.2 c.dl, noText)
def freeOK (x : Sh) (c : Cd) : Bool := hasB x.mem (c.e.1, c.e.2.1, 1) && decide ((getR x.mem (c.e.1, c.e.2.1, 1)).1 = 0) && !hasB x.mem (c.e.1, c.e.2.1, 2)
def freeR (x : Sh) (c : Cd) : Rp := if freeOK x c then chgR x c else (9, 0, noText)
def freeK (x : Sh) (c : Cd) : Bool := if freeOK x c then (chgR x c).1 == 0 else false
def freeX (x : Sh) (c : Cd) : Sh := if freeOK x c then cntX x c else x
set_option maxHeartbeats 16000000 in
theorem shFree_any {base : Nat} {p : Pl} {x : Sh} {v : World} (h : ShW base p x v) (c : Cd) (hk : c.key.size ≤ 140737488355328) (hd1 : -9223372036854775808 ≤ c.dl) (hd2 : c.dl ≤ 9223372036854775807) : Calls Tryz.prog 69 #[.pointer (some ⟨p.S, 0, none⟩), .agg (cdV c)] v fun e w' => e = .returned (repV (freeR x c) (freeK x c)) ∧ ShTo base p p (freeX x c) v w' := by
 obtain ⟨fr, hfr⟩ : ∃ z, z = freeR x c := ⟨_, rfl⟩
 obtain ⟨fk, hfk⟩ : ∃ z, z = freeK x c := ⟨_, rfl⟩
 obtain ⟨fx, hfx⟩ : ∃ z, z = freeX x c := ⟨_, rfl⟩
 rw [← hfr, ← hfk, ← hfx]
 unfold repV
 replace hfr := Lh hfr; replace hfk := Lh hfk; replace hfx := Lh hfx
 obtain ⟨W1, hW1⟩ : ∃ W1, W1 = ((v.alloc (.cells (cdV c) 40)).alloc (.cells #[.int .i64 0, .int .i64 0, .string ⟨#[]⟩] 52)) := ⟨_, rfl⟩
 have k1 : Below v.heap.size v W1 := by rw [hW1]; exact ((Below.refl _ v).alloc (Nat.le_refl _) _).alloc (by simp <;> omega) _
 have b0 : W1.heap[v.heap.size]? = some (.cells (cdV c) 40 (0, 0)) := by rw [hW1]; repeat (first | exact hpNewAt _ (by simp) | exact hpNew _ _ | refine (hpOld _ (by simp <;> omega)).trans ?_)
 have b1 : W1.heap[v.heap.size + 1]? = some (.cells #[.int .i64 0, .int .i64 0, .string ⟨#[]⟩] 52 (0, 0)) := by rw [hW1]; repeat (first | exact hpNewAt _ (by simp) | exact hpNew _ _ | refine (hpOld _ (by simp <;> omega)).trans ?_)
 have h1 := h.below k1
 have hSv : ∀ W' : World, Below W1.heap.size W1 W' → (fun W' : World => W'.heap[p.S]? = some (.cells (shV p x) 88 (0, 0)) ∧ W'.heap[v.heap.size]? = some (.cells (cdV c) 40 (0, 0))) W' := fun W' hb => ⟨(h1.below hb).blk, (hb.block _ (blkX b0)).trans b0⟩
 have kx := Below.refl W1.heap.size W1
 have hx0 := blkX b0
 replace h := Lh h; replace h1 := Lh h1; replace k1 := Lh k1; replace b1 := Lh b1; replace b0 := Lh b0; replace hSv := Lh hSv; replace kx := Lh kx
 go_enter Tryz.func69, Tryz.ntmps69
 go_wp2_with (fail)
 rw [← hW1]
 replace hW1 := Lh hW1
 obtain ⟨Ya, hYa⟩ : ∃ W, W = W1.drew := ⟨_, rfl⟩
 have bd : Below W1.heap.size W1 Ya := by rw [hYa]; exact (Below.refl _ _).drew
 have ky := Lh (kx.out.trans (bd.mono kx.out.size))
 obtain ⟨ra, hra⟩ : ∃ z, z = getR x.mem (c.e.1, c.e.2.1, 1) := ⟨_, rfl⟩
 obtain ⟨fa, hfa⟩ : ∃ z, z = hasB x.mem (c.e.1, c.e.2.1, 1) := ⟨_, rfl⟩
 have hgta := fun (W : World) (hb : Below W1.heap.size W1 W) => Get_any (h1.out.below hb).mem h1.out.ord (c.e.1, c.e.2.1, 1)
 simp only [← hra, ← hfa] at hgta
 replace hgta := Lh hgta; replace hra := Lh hra; replace hfa := Lh hfa; replace hYa := Lh hYa
 clear bd
 apply joinArms (F := fun V ab => Found W1 52 ra V ab)
 ·
  intro hfin
  refine wp_region_held_drew (S := (fun W' : World => W'.heap[p.S]? = some (.cells (shV p x) 88 (0, 0)) ∧ W'.heap[v.heap.size]? = some (.cells (cdV c) 40 (0, 0)))) (by kernel_rfl) ?_ (fun hH => ?_)
  ·
   rw [← hYa.out]
   exact hSv.out _ ky.out
  refine tl 0 hH ?_
  refine tl 1 hH ?_
  refine tl 2 hH ?_
  refine tk (i := 3) (v := ?_) (hy := .inl ⟨by rfl, by intro w hSw; obtain ⟨sS, sC⟩ := hSw; have t0 : w.cell? ⟨p.S, 4, none⟩ = some (.pointer (some ⟨p.D, 0, none⟩)) := blkC sS 4; go_simp; first | done | with_reducible rfl⟩) (hS := hH) (h := ?_)
  refine tl 4 hH ?_
  refine tk (i := 5) (v := ?_) (hy := .inl ⟨by rfl, by intro w hSw; obtain ⟨sS, sC⟩ := hSw; have t0 : w.cell? ⟨v.heap.size, 3, none⟩ = some (.int .i64 c.e.1) := blkC sC 3; have t1 : w.cell? ⟨v.heap.size, 4, none⟩ = some (.int .i64 c.e.2.1) := blkC sC 4; have t2 : w.cell? ⟨v.heap.size, 5, none⟩ = some (.int .i64 c.e.2.2) := blkC sC 5; go_simp; first | done | with_reducible rfl⟩) (hS := hH) (h := ?_)
  refine wpAnyH_ready (rs := [6, 11]) (by kernel_rfl) (by simp) ?_
  refine AllReadyH.cons rfl (fun K hK => ?_) ?_
  ·
   clear hH
   try rw [← hYa.out]
   go_simp
   refine (of_any c.e 1 _).mono ?_
   rintro e Ya_6 ⟨rfl, bb⟩
   have kYa_6 := Lh (ky.out.trans (bb.mono ky.out.size))
   clear bb
   refine hK.out _ _ (hSv.out _ kYa_6.out) (fun hH => ?_)
   clear hK K
   refine wpAnyH_ready (rs := [7, 11]) (by kernel_rfl) (by simp) ?_
   refine AllReadyH.cons rfl (fun K hK => ?_) ?_
   ·
    clear hH
    go_simp
    refine (hgta.out _ kYa_6.out).mono ?_
    rintro e Ya_6_7 ⟨rfl, bb⟩
    have kYa_6_7 := Lh (kYa_6.out.trans (bb.mono kYa_6.out.size))
    clear bb
    refine hK.out _ _ (hSv.out _ kYa_6_7.out) (fun hH => ?_)
    clear hK K
    refine tl 8 hH ?_
    refine tl 9 hH ?_
    refine tl 10 hH ?_
    refine wpAnyH_ready (rs := [11]) (by kernel_rfl) (by simp) ?_
    refine AllReadyH.cons rfl (fun K hK => ?_) ?_
    ·
     clear hH
     go_simp
     obtain ⟨Ya_6_7_11, hVV⟩ : ∃ Z, Z = Ya_6_7.alloc (.cells #[.int .i64 0, .int .i64 0, .string ⟨#[]⟩] 52) := ⟨_, rfl⟩
     have bb : Below Ya_6_7.heap.size Ya_6_7 Ya_6_7_11 := by rw [hVV]; exact (Below.refl _ _).alloc (Nat.le_refl _) _
     obtain ⟨ab, hab⟩ : ∃ n, n = Ya_6_7.heap.size := ⟨_, rfl⟩
     have qaYa_6_7_11 := Lh (show Ya_6_7_11.heap[ab]? = some (.cells #[.int .i64 0, .int .i64 0, .string ⟨#[]⟩] 52 (0, 0)) from by rw [hVV, hab]; exact hpNew _ _)
     have hga := Lh (show W1.heap.size ≤ ab from by rw [hab]; exact kYa_6_7.out.size)
     have kYa_6_7_11 := Lh (kYa_6_7.out.trans (bb.mono kYa_6_7.out.size))
     clear bb
     rw [← hVV, ← hab]
     replace hVV := Lh hVV; replace hab := Lh hab
     refine hK.out _ _ (hSv.out _ kYa_6_7_11.out) (fun hH => ?_)
     clear hK K
     refine wpAnyH_ready (rs := [12]) (by kernel_rfl) (by simp) ?_
     refine AllReadyH.cons rfl (fun K hK => ?_) ?_
     ·
      clear hH
      have e0 := blkC qaYa_6_7_11.out 0; have e1 := blkC qaYa_6_7_11.out 1; have e2 := blkC qaYa_6_7_11.out 2; have ef := blkF qaYa_6_7_11.out; have ex := blkX qaYa_6_7_11.out
      simp only [List.getElem?_toArray, List.getElem?_cons_zero, List.getElem?_cons_succ] at e0 e1 e2
      go_simp
      have hfd := found_store kYa_6_7_11.out hga.out qaYa_6_7_11.out rfl ra
      generalize hV9 : ((Ya_6_7_11.setCell ⟨ab, 0, none⟩ (.int .i64 ra.1)).setCell ⟨ab, 1, none⟩ (.int .i64 ra.2.1)).setCell ⟨ab, 2, none⟩ (.string ra.2.2) = V9 at hfd ⊢
      refine hK.out _ _ (hSv.out _ hfd.bel) (fun hH => ?_)
      clear hK K e0 e1 e2 ef ex
      refine tl 13 hH ?_
      refine wpAnyH_done (by kernel_rfl) ?_ _
      clear hH
      exact hfin _ _ hfd
     exact AllReadyH.nil
    exact AllReadyH.nil
   refine AllReadyH.cons rfl (fun K hK => ?_) ?_
   ·
    clear hH
    go_simp
    obtain ⟨Ya_6_11, hVV⟩ : ∃ Z, Z = Ya_6.alloc (.cells #[.int .i64 0, .int .i64 0, .string ⟨#[]⟩] 52) := ⟨_, rfl⟩
    have bb : Below Ya_6.heap.size Ya_6 Ya_6_11 := by rw [hVV]; exact (Below.refl _ _).alloc (Nat.le_refl _) _
    obtain ⟨ab, hab⟩ : ∃ n, n = Ya_6.heap.size := ⟨_, rfl⟩
    have qaYa_6_11 := Lh (show Ya_6_11.heap[ab]? = some (.cells #[.int .i64 0, .int .i64 0, .string ⟨#[]⟩] 52 (0, 0)) from by rw [hVV, hab]; exact hpNew _ _)
    have hga := Lh (show W1.heap.size ≤ ab from by rw [hab]; exact kYa_6.out.size)
    have kYa_6_11 := Lh (kYa_6.out.trans (bb.mono kYa_6.out.size))
    clear bb
    rw [← hVV, ← hab]
    replace hVV := Lh hVV; replace hab := Lh hab
    refine hK.out _ _ (hSv.out _ kYa_6_11.out) (fun hH => ?_)
    clear hK K
    refine wpAnyH_ready (rs := [7]) (by kernel_rfl) (by simp) ?_
    refine AllReadyH.cons rfl (fun K hK => ?_) ?_
    ·
     clear hH
     go_simp
     refine (hgta.out _ kYa_6_11.out).mono ?_
     rintro e Ya_6_7_11 ⟨rfl, bb⟩
     have kYa_6_7_11 := Lh (kYa_6_11.out.trans (bb.mono kYa_6_11.out.size))
     have qaYa_6_7_11 := Lh ((bb.block _ (blkX qaYa_6_11.out)).trans qaYa_6_11.out)
     clear bb
     refine hK.out _ _ (hSv.out _ kYa_6_7_11.out) (fun hH => ?_)
     clear hK K
     refine tl 8 hH ?_
     refine tl 9 hH ?_
     refine tl 10 hH ?_
     refine wpAnyH_ready (rs := [12]) (by kernel_rfl) (by simp) ?_
     refine AllReadyH.cons rfl (fun K hK => ?_) ?_
     ·
      clear hH
      have e0 := blkC qaYa_6_7_11.out 0; have e1 := blkC qaYa_6_7_11.out 1; have e2 := blkC qaYa_6_7_11.out 2; have ef := blkF qaYa_6_7_11.out; have ex := blkX qaYa_6_7_11.out
      simp only [List.getElem?_toArray, List.getElem?_cons_zero, List.getElem?_cons_succ] at e0 e1 e2
      go_simp
      have hfd := found_store kYa_6_7_11.out hga.out qaYa_6_7_11.out rfl ra
      generalize hV9 : ((Ya_6_7_11.setCell ⟨ab, 0, none⟩ (.int .i64 ra.1)).setCell ⟨ab, 1, none⟩ (.int .i64 ra.2.1)).setCell ⟨ab, 2, none⟩ (.string ra.2.2) = V9 at hfd ⊢
      refine hK.out _ _ (hSv.out _ hfd.bel) (fun hH => ?_)
      clear hK K e0 e1 e2 ef ex
      refine tl 13 hH ?_
      refine wpAnyH_done (by kernel_rfl) ?_ _
      clear hH
      exact hfin _ _ hfd
     exact AllReadyH.nil
    exact AllReadyH.nil
   exact AllReadyH.nil
  refine AllReadyH.cons rfl (fun K hK => ?_) ?_
  ·
   clear hH
   try rw [← hYa.out]
   go_simp
   obtain ⟨Ya_11, hVV⟩ : ∃ Z, Z = Ya.alloc (.cells #[.int .i64 0, .int .i64 0, .string ⟨#[]⟩] 52) := ⟨_, rfl⟩
   have bb : Below Ya.heap.size Ya Ya_11 := by rw [hVV]; exact (Below.refl _ _).alloc (Nat.le_refl _) _
   obtain ⟨ab, hab⟩ : ∃ n, n = Ya.heap.size := ⟨_, rfl⟩
   have qaYa_11 := Lh (show Ya_11.heap[ab]? = some (.cells #[.int .i64 0, .int .i64 0, .string ⟨#[]⟩] 52 (0, 0)) from by rw [hVV, hab]; exact hpNew _ _)
   have hga := Lh (show W1.heap.size ≤ ab from by rw [hab]; exact ky.out.size)
   have kYa_11 := Lh (ky.out.trans (bb.mono ky.out.size))
   clear bb
   rw [← hVV, ← hab]
   replace hVV := Lh hVV; replace hab := Lh hab
   refine hK.out _ _ (hSv.out _ kYa_11.out) (fun hH => ?_)
   clear hK K
   refine wpAnyH_ready (rs := [6]) (by kernel_rfl) (by simp) ?_
   refine AllReadyH.cons rfl (fun K hK => ?_) ?_
   ·
    clear hH
    go_simp
    refine (of_any c.e 1 _).mono ?_
    rintro e Ya_6_11 ⟨rfl, bb⟩
    have kYa_6_11 := Lh (kYa_11.out.trans (bb.mono kYa_11.out.size))
    have qaYa_6_11 := Lh ((bb.block _ (blkX qaYa_11.out)).trans qaYa_11.out)
    clear bb
    refine hK.out _ _ (hSv.out _ kYa_6_11.out) (fun hH => ?_)
    clear hK K
    refine wpAnyH_ready (rs := [7]) (by kernel_rfl) (by simp) ?_
    refine AllReadyH.cons rfl (fun K hK => ?_) ?_
    ·
     clear hH
     go_simp
     refine (hgta.out _ kYa_6_11.out).mono ?_
     rintro e Ya_6_7_11 ⟨rfl, bb⟩
     have kYa_6_7_11 := Lh (kYa_6_11.out.trans (bb.mono kYa_6_11.out.size))
     have qaYa_6_7_11 := Lh ((bb.block _ (blkX qaYa_6_11.out)).trans qaYa_6_11.out)
     clear bb
     refine hK.out _ _ (hSv.out _ kYa_6_7_11.out) (fun hH => ?_)
     clear hK K
     refine tl 8 hH ?_
     refine tl 9 hH ?_
     refine tl 10 hH ?_
     refine wpAnyH_ready (rs := [12]) (by kernel_rfl) (by simp) ?_
     refine AllReadyH.cons rfl (fun K hK => ?_) ?_
     ·
      clear hH
      have e0 := blkC qaYa_6_7_11.out 0; have e1 := blkC qaYa_6_7_11.out 1; have e2 := blkC qaYa_6_7_11.out 2; have ef := blkF qaYa_6_7_11.out; have ex := blkX qaYa_6_7_11.out
      simp only [List.getElem?_toArray, List.getElem?_cons_zero, List.getElem?_cons_succ] at e0 e1 e2
      go_simp
      have hfd := found_store kYa_6_7_11.out hga.out qaYa_6_7_11.out rfl ra
      generalize hV9 : ((Ya_6_7_11.setCell ⟨ab, 0, none⟩ (.int .i64 ra.1)).setCell ⟨ab, 1, none⟩ (.int .i64 ra.2.1)).setCell ⟨ab, 2, none⟩ (.string ra.2.2) = V9 at hfd ⊢
      refine hK.out _ _ (hSv.out _ hfd.bel) (fun hH => ?_)
      clear hK K e0 e1 e2 ef ex
      refine tl 13 hH ?_
      refine wpAnyH_done (by kernel_rfl) ?_ _
      clear hH
      exact hfin _ _ hfd
     exact AllReadyH.nil
    exact AllReadyH.nil
   exact AllReadyH.nil
  exact AllReadyH.nil
 ·
  rintro V1 a1 hfda
  have kx := Lh hfda.bel
  have hga := hfda.ge
  have qa1 := Lh hfda.blk
  go_wp2_with (fail)
  obtain ⟨Yb, hYb⟩ : ∃ W, W = V1.drew := ⟨_, rfl⟩
  have bd : Below V1.heap.size V1 Yb := by rw [hYb]; exact (Below.refl _ _).drew
  have ky := Lh (kx.out.trans (bd.mono kx.out.size))
  obtain ⟨rb, hrb⟩ : ∃ z, z = getR x.mem (c.e.1, c.e.2.1, 2) := ⟨_, rfl⟩
  obtain ⟨fb, hfb⟩ : ∃ z, z = hasB x.mem (c.e.1, c.e.2.1, 2) := ⟨_, rfl⟩
  have hgtb := fun (W : World) (hb : Below W1.heap.size W1 W) => Get_any (h1.out.below hb).mem h1.out.ord (c.e.1, c.e.2.1, 2)
  simp only [← hrb, ← hfb] at hgtb
  replace hgtb := Lh hgtb; replace hrb := Lh hrb; replace hfb := Lh hfb; replace hYb := Lh hYb
  have qa1_ := Lh ((bd.block _ (blkX qa1.out)).trans qa1.out)
  clear bd
  apply joinArms (F := fun V ab => Found W1 52 rb V ab ∧ V.heap[a1]? = some (.cells #[.int .i64 ra.1, .int .i64 ra.2.1, .string ra.2.2] 52 (0, 0)))
  ·
   intro hfin
   refine wp_region_held_drew (S := (fun W' : World => W'.heap[p.S]? = some (.cells (shV p x) 88 (0, 0)) ∧ W'.heap[v.heap.size]? = some (.cells (cdV c) 40 (0, 0)))) (by kernel_rfl) ?_ (fun hH => ?_)
   ·
    rw [← hYb.out]
    exact hSv.out _ ky.out
   refine tl 0 hH ?_
   refine tl 1 hH ?_
   refine tl 2 hH ?_
   refine tk (i := 3) (v := ?_) (hy := .inl ⟨by rfl, by intro w hSw; obtain ⟨sS, sC⟩ := hSw; have t0 : w.cell? ⟨p.S, 4, none⟩ = some (.pointer (some ⟨p.D, 0, none⟩)) := blkC sS 4; go_simp; first | done | with_reducible rfl⟩) (hS := hH) (h := ?_)
   refine tl 4 hH ?_
   refine tk (i := 5) (v := ?_) (hy := .inl ⟨by rfl, by intro w hSw; obtain ⟨sS, sC⟩ := hSw; have t0 : w.cell? ⟨v.heap.size, 3, none⟩ = some (.int .i64 c.e.1) := blkC sC 3; have t1 : w.cell? ⟨v.heap.size, 4, none⟩ = some (.int .i64 c.e.2.1) := blkC sC 4; have t2 : w.cell? ⟨v.heap.size, 5, none⟩ = some (.int .i64 c.e.2.2) := blkC sC 5; go_simp; first | done | with_reducible rfl⟩) (hS := hH) (h := ?_)
   refine wpAnyH_ready (rs := [6, 11]) (by kernel_rfl) (by simp) ?_
   refine AllReadyH.cons rfl (fun K hK => ?_) ?_
   ·
    clear hH
    try rw [← hYb.out]
    go_simp
    refine (of_any c.e 2 _).mono ?_
    rintro e Yb_6 ⟨rfl, bb⟩
    have kYb_6 := Lh (ky.out.trans (bb.mono ky.out.size))
    have qa1_Yb_6 := Lh ((bb.block _ (blkX qa1_.out)).trans qa1_.out)
    clear bb
    refine hK.out _ _ (hSv.out _ kYb_6.out) (fun hH => ?_)
    clear hK K
    refine wpAnyH_ready (rs := [7, 11]) (by kernel_rfl) (by simp) ?_
    refine AllReadyH.cons rfl (fun K hK => ?_) ?_
    ·
     clear hH
     go_simp
     refine (hgtb.out _ kYb_6.out).mono ?_
     rintro e Yb_6_7 ⟨rfl, bb⟩
     have kYb_6_7 := Lh (kYb_6.out.trans (bb.mono kYb_6.out.size))
     have qa1_Yb_6_7 := Lh ((bb.block _ (blkX qa1_Yb_6.out)).trans qa1_Yb_6.out)
     clear bb
     refine hK.out _ _ (hSv.out _ kYb_6_7.out) (fun hH => ?_)
     clear hK K
     refine tl 8 hH ?_
     refine tl 9 hH ?_
     refine tl 10 hH ?_
     refine wpAnyH_ready (rs := [11]) (by kernel_rfl) (by simp) ?_
     refine AllReadyH.cons rfl (fun K hK => ?_) ?_
     ·
      clear hH
      go_simp
      obtain ⟨Yb_6_7_11, hVV⟩ : ∃ Z, Z = Yb_6_7.alloc (.cells #[.int .i64 0, .int .i64 0, .string ⟨#[]⟩] 52) := ⟨_, rfl⟩
      have bb : Below Yb_6_7.heap.size Yb_6_7 Yb_6_7_11 := by rw [hVV]; exact (Below.refl _ _).alloc (Nat.le_refl _) _
      obtain ⟨ab, hab⟩ : ∃ n, n = Yb_6_7.heap.size := ⟨_, rfl⟩
      have qaYb_6_7_11 := Lh (show Yb_6_7_11.heap[ab]? = some (.cells #[.int .i64 0, .int .i64 0, .string ⟨#[]⟩] 52 (0, 0)) from by rw [hVV, hab]; exact hpNew _ _)
      have hga := Lh (show W1.heap.size ≤ ab from by rw [hab]; exact kYb_6_7.out.size)
      have hlqa1 := Lh (show a1 < ab from by rw [hab]; exact blkX qa1_Yb_6_7.out)
      have kYb_6_7_11 := Lh (kYb_6_7.out.trans (bb.mono kYb_6_7.out.size))
      have qa1_Yb_6_7_11 := Lh ((bb.block _ (blkX qa1_Yb_6_7.out)).trans qa1_Yb_6_7.out)
      clear bb
      rw [← hVV, ← hab]
      replace hVV := Lh hVV; replace hab := Lh hab
      refine hK.out _ _ (hSv.out _ kYb_6_7_11.out) (fun hH => ?_)
      clear hK K
      refine wpAnyH_ready (rs := [12]) (by kernel_rfl) (by simp) ?_
      refine AllReadyH.cons rfl (fun K hK => ?_) ?_
      ·
       clear hH
       have e0 := blkC qaYb_6_7_11.out 0; have e1 := blkC qaYb_6_7_11.out 1; have e2 := blkC qaYb_6_7_11.out 2; have ef := blkF qaYb_6_7_11.out; have ex := blkX qaYb_6_7_11.out
       simp only [List.getElem?_toArray, List.getElem?_cons_zero, List.getElem?_cons_succ] at e0 e1 e2
       go_simp
       have hfd := found_store kYb_6_7_11.out hga.out qaYb_6_7_11.out rfl rb
       have qa1_9 := (hpFar (w := (Yb_6_7_11.setCell ⟨ab, 0, none⟩ (.int .i64 rb.1)).setCell ⟨ab, 1, none⟩ (.int .i64 rb.2.1)) (a := ⟨ab, 2, none⟩) (v := .string rb.2.2) (g := a1) (by have := hlqa1.out; simp only; omega)).trans ((hpFar (w := Yb_6_7_11.setCell ⟨ab, 0, none⟩ (.int .i64 rb.1)) (a := ⟨ab, 1, none⟩) (v := .int .i64 rb.2.1) (by have := hlqa1.out; simp only; omega)).trans ((hpFar (a := ⟨ab, 0, none⟩) (v := .int .i64 rb.1) (by have := hlqa1.out; simp only; omega)).trans qa1_Yb_6_7_11.out))
       generalize hV9 : ((Yb_6_7_11.setCell ⟨ab, 0, none⟩ (.int .i64 rb.1)).setCell ⟨ab, 1, none⟩ (.int .i64 rb.2.1)).setCell ⟨ab, 2, none⟩ (.string rb.2.2) = V9 at hfd qa1_9 ⊢
       refine hK.out _ _ (hSv.out _ hfd.bel) (fun hH => ?_)
       clear hK K e0 e1 e2 ef ex
       refine tl 13 hH ?_
       refine wpAnyH_done (by kernel_rfl) ?_ _
       clear hH
       exact hfin _ _ ⟨hfd, qa1_9⟩
      exact AllReadyH.nil
     exact AllReadyH.nil
    refine AllReadyH.cons rfl (fun K hK => ?_) ?_
    ·
     clear hH
     go_simp
     obtain ⟨Yb_6_11, hVV⟩ : ∃ Z, Z = Yb_6.alloc (.cells #[.int .i64 0, .int .i64 0, .string ⟨#[]⟩] 52) := ⟨_, rfl⟩
     have bb : Below Yb_6.heap.size Yb_6 Yb_6_11 := by rw [hVV]; exact (Below.refl _ _).alloc (Nat.le_refl _) _
     obtain ⟨ab, hab⟩ : ∃ n, n = Yb_6.heap.size := ⟨_, rfl⟩
     have qaYb_6_11 := Lh (show Yb_6_11.heap[ab]? = some (.cells #[.int .i64 0, .int .i64 0, .string ⟨#[]⟩] 52 (0, 0)) from by rw [hVV, hab]; exact hpNew _ _)
     have hga := Lh (show W1.heap.size ≤ ab from by rw [hab]; exact kYb_6.out.size)
     have hlqa1 := Lh (show a1 < ab from by rw [hab]; exact blkX qa1_Yb_6.out)
     have kYb_6_11 := Lh (kYb_6.out.trans (bb.mono kYb_6.out.size))
     have qa1_Yb_6_11 := Lh ((bb.block _ (blkX qa1_Yb_6.out)).trans qa1_Yb_6.out)
     clear bb
     rw [← hVV, ← hab]
     replace hVV := Lh hVV; replace hab := Lh hab
     refine hK.out _ _ (hSv.out _ kYb_6_11.out) (fun hH => ?_)
     clear hK K
     refine wpAnyH_ready (rs := [7]) (by kernel_rfl) (by simp) ?_
     refine AllReadyH.cons rfl (fun K hK => ?_) ?_
     ·
      clear hH
      go_simp
      refine (hgtb.out _ kYb_6_11.out).mono ?_
      rintro e Yb_6_7_11 ⟨rfl, bb⟩
      have kYb_6_7_11 := Lh (kYb_6_11.out.trans (bb.mono kYb_6_11.out.size))
      have qaYb_6_7_11 := Lh ((bb.block _ (blkX qaYb_6_11.out)).trans qaYb_6_11.out)
      have qa1_Yb_6_7_11 := Lh ((bb.block _ (blkX qa1_Yb_6_11.out)).trans qa1_Yb_6_11.out)
      clear bb
      refine hK.out _ _ (hSv.out _ kYb_6_7_11.out) (fun hH => ?_)
      clear hK K
      refine tl 8 hH ?_
      refine tl 9 hH ?_
      refine tl 10 hH ?_
      refine wpAnyH_ready (rs := [12]) (by kernel_rfl) (by simp) ?_
      refine AllReadyH.cons rfl (fun K hK => ?_) ?_
      ·
       clear hH
       have e0 := blkC qaYb_6_7_11.out 0; have e1 := blkC qaYb_6_7_11.out 1; have e2 := blkC qaYb_6_7_11.out 2; have ef := blkF qaYb_6_7_11.out; have ex := blkX qaYb_6_7_11.out
       simp only [List.getElem?_toArray, List.getElem?_cons_zero, List.getElem?_cons_succ] at e0 e1 e2
       go_simp
       have hfd := found_store kYb_6_7_11.out hga.out qaYb_6_7_11.out rfl rb
       have qa1_9 := (hpFar (w := (Yb_6_7_11.setCell ⟨ab, 0, none⟩ (.int .i64 rb.1)).setCell ⟨ab, 1, none⟩ (.int .i64 rb.2.1)) (a := ⟨ab, 2, none⟩) (v := .string rb.2.2) (g := a1) (by have := hlqa1.out; simp only; omega)).trans ((hpFar (w := Yb_6_7_11.setCell ⟨ab, 0, none⟩ (.int .i64 rb.1)) (a := ⟨ab, 1, none⟩) (v := .int .i64 rb.2.1) (by have := hlqa1.out; simp only; omega)).trans ((hpFar (a := ⟨ab, 0, none⟩) (v := .int .i64 rb.1) (by have := hlqa1.out; simp only; omega)).trans qa1_Yb_6_7_11.out))
       generalize hV9 : ((Yb_6_7_11.setCell ⟨ab, 0, none⟩ (.int .i64 rb.1)).setCell ⟨ab, 1, none⟩ (.int .i64 rb.2.1)).setCell ⟨ab, 2, none⟩ (.string rb.2.2) = V9 at hfd qa1_9 ⊢
       refine hK.out _ _ (hSv.out _ hfd.bel) (fun hH => ?_)
       clear hK K e0 e1 e2 ef ex
       refine tl 13 hH ?_
       refine wpAnyH_done (by kernel_rfl) ?_ _
       clear hH
       exact hfin _ _ ⟨hfd, qa1_9⟩
      exact AllReadyH.nil
     exact AllReadyH.nil
    exact AllReadyH.nil
   refine AllReadyH.cons rfl (fun K hK => ?_) ?_
   ·
    clear hH
    try rw [← hYb.out]
    go_simp
    obtain ⟨Yb_11, hVV⟩ : ∃ Z, Z = Yb.alloc (.cells #[.int .i64 0, .int .i64 0, .string ⟨#[]⟩] 52) := ⟨_, rfl⟩
    have bb : Below Yb.heap.size Yb Yb_11 := by rw [hVV]; exact (Below.refl _ _).alloc (Nat.le_refl _) _
    obtain ⟨ab, hab⟩ : ∃ n, n = Yb.heap.size := ⟨_, rfl⟩
    have qaYb_11 := Lh (show Yb_11.heap[ab]? = some (.cells #[.int .i64 0, .int .i64 0, .string ⟨#[]⟩] 52 (0, 0)) from by rw [hVV, hab]; exact hpNew _ _)
    have hga := Lh (show W1.heap.size ≤ ab from by rw [hab]; exact ky.out.size)
    have hlqa1 := Lh (show a1 < ab from by rw [hab]; exact blkX qa1_.out)
    have kYb_11 := Lh (ky.out.trans (bb.mono ky.out.size))
    have qa1_Yb_11 := Lh ((bb.block _ (blkX qa1_.out)).trans qa1_.out)
    clear bb
    rw [← hVV, ← hab]
    replace hVV := Lh hVV; replace hab := Lh hab
    refine hK.out _ _ (hSv.out _ kYb_11.out) (fun hH => ?_)
    clear hK K
    refine wpAnyH_ready (rs := [6]) (by kernel_rfl) (by simp) ?_
    refine AllReadyH.cons rfl (fun K hK => ?_) ?_
    ·
     clear hH
     go_simp
     refine (of_any c.e 2 _).mono ?_
     rintro e Yb_6_11 ⟨rfl, bb⟩
     have kYb_6_11 := Lh (kYb_11.out.trans (bb.mono kYb_11.out.size))
     have qaYb_6_11 := Lh ((bb.block _ (blkX qaYb_11.out)).trans qaYb_11.out)
     have qa1_Yb_6_11 := Lh ((bb.block _ (blkX qa1_Yb_11.out)).trans qa1_Yb_11.out)
     clear bb
     refine hK.out _ _ (hSv.out _ kYb_6_11.out) (fun hH => ?_)
     clear hK K
     refine wpAnyH_ready (rs := [7]) (by kernel_rfl) (by simp) ?_
     refine AllReadyH.cons rfl (fun K hK => ?_) ?_
     ·
      clear hH
      go_simp
      refine (hgtb.out _ kYb_6_11.out).mono ?_
      rintro e Yb_6_7_11 ⟨rfl, bb⟩
      have kYb_6_7_11 := Lh (kYb_6_11.out.trans (bb.mono kYb_6_11.out.size))
      have qaYb_6_7_11 := Lh ((bb.block _ (blkX qaYb_6_11.out)).trans qaYb_6_11.out)
      have qa1_Yb_6_7_11 := Lh ((bb.block _ (blkX qa1_Yb_6_11.out)).trans qa1_Yb_6_11.out)
      clear bb
      refine hK.out _ _ (hSv.out _ kYb_6_7_11.out) (fun hH => ?_)
      clear hK K
      refine tl 8 hH ?_
      refine tl 9 hH ?_
      refine tl 10 hH ?_
      refine wpAnyH_ready (rs := [12]) (by kernel_rfl) (by simp) ?_
      refine AllReadyH.cons rfl (fun K hK => ?_) ?_
      ·
       clear hH
       have e0 := blkC qaYb_6_7_11.out 0; have e1 := blkC qaYb_6_7_11.out 1; have e2 := blkC qaYb_6_7_11.out 2; have ef := blkF qaYb_6_7_11.out; have ex := blkX qaYb_6_7_11.out
       simp only [List.getElem?_toArray, List.getElem?_cons_zero, List.getElem?_cons_succ] at e0 e1 e2
       go_simp
       have hfd := found_store kYb_6_7_11.out hga.out qaYb_6_7_11.out rfl rb
       have qa1_9 := (hpFar (w := (Yb_6_7_11.setCell ⟨ab, 0, none⟩ (.int .i64 rb.1)).setCell ⟨ab, 1, none⟩ (.int .i64 rb.2.1)) (a := ⟨ab, 2, none⟩) (v := .string rb.2.2) (g := a1) (by have := hlqa1.out; simp only; omega)).trans ((hpFar (w := Yb_6_7_11.setCell ⟨ab, 0, none⟩ (.int .i64 rb.1)) (a := ⟨ab, 1, none⟩) (v := .int .i64 rb.2.1) (by have := hlqa1.out; simp only; omega)).trans ((hpFar (a := ⟨ab, 0, none⟩) (v := .int .i64 rb.1) (by have := hlqa1.out; simp only; omega)).trans qa1_Yb_6_7_11.out))
       generalize hV9 : ((Yb_6_7_11.setCell ⟨ab, 0, none⟩ (.int .i64 rb.1)).setCell ⟨ab, 1, none⟩ (.int .i64 rb.2.1)).setCell ⟨ab, 2, none⟩ (.string rb.2.2) = V9 at hfd qa1_9 ⊢
       refine hK.out _ _ (hSv.out _ hfd.bel) (fun hH => ?_)
       clear hK K e0 e1 e2 ef ex
       refine tl 13 hH ?_
       refine wpAnyH_done (by kernel_rfl) ?_ _
       clear hH
       exact hfin _ _ ⟨hfd, qa1_9⟩
      exact AllReadyH.nil
     exact AllReadyH.nil
    exact AllReadyH.nil
   exact AllReadyH.nil
  ·
   rintro V2 a2 ⟨hfdb, qa1b⟩
   have kx2 := Lh hfdb.bel
   clear kx; have kx := kx2; clear kx2
   have s0 := blkC qa1b 0; have sx := blkX qa1b
   simp only [List.getElem?_toArray, List.getElem?_cons_zero, List.getElem?_cons_succ] at s0
   replace qa1b := Lh qa1b
   have hcase : Hid (freeOK x c = (fa && decide (ra.1 = 0) && !fb)) := Lh (by unfold freeOK; rw [← hra.out, ← hfa.out, ← hfb.out])
   skip
   cases fa with
   | false =>
    have hno : freeOK x c = false := by rw [hcase.out]; simp
    have e1 : fr = (9, 0, noText) := by rw [hfr.out]; unfold freeR; rw [hno]; rfl
    have e2 : fk = false := by rw [hfk.out]; unfold freeK; rw [hno]; rfl
    have e3 : fx = x := by rw [hfx.out]; unfold freeX; rw [hno]; rfl
    subst e1; subst e2; subst e3
    replace hno := Lh hno
    go_wp2_with (fail)
    refine (refused_any 9 _).mono ?_
    rintro e V3 ⟨rfl, b3⟩
    have k3 := Lh (kx.out.trans (b3.mono kx.out.size))
    have e1 := (k3.out.block _ (blkX b1.out)).trans b1.out
    have s0 := blkC e1 0
    have s1 := blkC e1 1
    have s2 := blkC e1 2
    have sf := blkF e1; have sx := blkX e1
    simp only [List.getElem?_toArray, List.getElem?_cons_zero, List.getElem?_cons_succ] at s0 s1 s2
    replace e1 := Lh e1
    clear b3
    go_wp2_with (fail)
    refine bodyPost_ret (by simp [results, Tryz.results69, go_sem, *]; try with_reducible rfl) rfl ?_
    exact ⟨rfl, (ShTo.set (ShTo.set (ShTo.set (ShTo.below h.out (k1.out.trans (k3.out.mono k1.out.size))) (a := ⟨v.heap.size + 1, 0, none⟩) (by simp only; omega) (h.out.out (by simp only; omega)) _) (a := ⟨v.heap.size + 1, 1, none⟩) (by simp only; omega) (h.out.out (by simp only; omega)) _) (a := ⟨v.heap.size + 1, 2, none⟩) (by simp only; omega) (h.out.out (by simp only; omega)) _)⟩
   | true =>
    by_cases hz : ra.1 = 0
    ·
     cases fb with
     | true =>
      have hno : freeOK x c = false := by rw [hcase.out]; simp
      have e1 : fr = (9, 0, noText) := by rw [hfr.out]; unfold freeR; rw [hno]; rfl
      have e2 : fk = false := by rw [hfk.out]; unfold freeK; rw [hno]; rfl
      have e3 : fx = x := by rw [hfx.out]; unfold freeX; rw [hno]; rfl
      subst e1; subst e2; subst e3
      replace hno := Lh hno
      go_wp2_with (fail)
      refine (refused_any 9 _).mono ?_
      rintro e V3 ⟨rfl, b3⟩
      have k3 := Lh (kx.out.trans (b3.mono kx.out.size))
      have e1 := (k3.out.block _ (blkX b1.out)).trans b1.out
      have s0 := blkC e1 0
      have s1 := blkC e1 1
      have s2 := blkC e1 2
      have sf := blkF e1; have sx := blkX e1
      simp only [List.getElem?_toArray, List.getElem?_cons_zero, List.getElem?_cons_succ] at s0 s1 s2
      replace e1 := Lh e1
      clear b3
      go_wp2_with (fail)
      refine bodyPost_ret (by simp [results, Tryz.results69, go_sem, *]; try with_reducible rfl) rfl ?_
      exact ⟨rfl, (ShTo.set (ShTo.set (ShTo.set (ShTo.below h.out (k1.out.trans (k3.out.mono k1.out.size))) (a := ⟨v.heap.size + 1, 0, none⟩) (by simp only; omega) (h.out.out (by simp only; omega)) _) (a := ⟨v.heap.size + 1, 1, none⟩) (by simp only; omega) (h.out.out (by simp only; omega)) _) (a := ⟨v.heap.size + 1, 2, none⟩) (by simp only; omega) (h.out.out (by simp only; omega)) _)⟩
     | false =>
      have hyes : freeOK x c = true := by rw [hcase.out, hz]; simp
      have e1 : fr = chgR x c := by rw [hfr.out]; unfold freeR; rw [hyes]; rfl
      have e2 : fk = ((chgR x c).1 == 0) := by rw [hfk.out]; unfold freeK; rw [hyes]; rfl
      have e3 : fx = cntX x c := by rw [hfx.out]; unfold freeX; rw [hyes]; rfl
      subst e1; subst e2; subst e3
      replace hyes := Lh hyes
      have hg := shChange_any (h1.out.below kx.out) c hk hd1 hd2
      have b0' := (kx.out.block _ (blkX b0.out)).trans b0.out
      have hld := cd_load b0'
      have hx0' := blkX b0'
      have b1' := (kx.out.block _ (blkX b1.out)).trans b1.out
      replace b0' := Lh b0'; replace b1' := Lh b1'
      go_wp2_with (fail)
      refine hg.mono ?_
      rintro e V3 ⟨rfl, sh⟩
      have e1 := sh.blk b1'.out (h.out.out (by omega))
      have s0 := blkC e1 0
      have s1 := blkC e1 1
      have s2 := blkC e1 2
      have sf := blkF e1; have sx := blkX e1
      simp only [List.getElem?_toArray, List.getElem?_cons_zero, List.getElem?_cons_succ] at s0 s1 s2
      replace e1 := Lh e1; replace sh := Lh sh
      clear hg hld
      go_wp2_with (fail)
      refine bodyPost_ret (by simp [results, Tryz.results69, go_sem, *]; try with_reducible rfl) rfl ?_
      exact ⟨rfl, (ShTo.set (ShTo.set (ShTo.set (sh.out.pre (k1.out.trans (kx.out.mono k1.out.size))) (a := ⟨v.heap.size + 1, 0, none⟩) (by simp only; omega) (h.out.out (by simp only; omega)) _) (a := ⟨v.heap.size + 1, 1, none⟩) (by simp only; omega) (h.out.out (by simp only; omega)) _) (a := ⟨v.heap.size + 1, 2, none⟩) (by simp only; omega) (h.out.out (by simp only; omega)) _)⟩
    ·
     have hz1 : decide (ra.1 = 0) = false := decide_eq_false hz
     have hno : freeOK x c = false := by rw [hcase.out, hz1]; simp
     have e1 : fr = (9, 0, noText) := by rw [hfr.out]; unfold freeR; rw [hno]; rfl
     have e2 : fk = false := by rw [hfk.out]; unfold freeK; rw [hno]; rfl
     have e3 : fx = x := by rw [hfx.out]; unfold freeX; rw [hno]; rfl
     subst e1; subst e2; subst e3
     replace hno := Lh hno
     go_wp2_with (fail)
     refine (refused_any 9 _).mono ?_
     rintro e V3 ⟨rfl, b3⟩
     have k3 := Lh (kx.out.trans (b3.mono kx.out.size))
     have e1 := (k3.out.block _ (blkX b1.out)).trans b1.out
     have s0 := blkC e1 0
     have s1 := blkC e1 1
     have s2 := blkC e1 2
     have sf := blkF e1; have sx := blkX e1
     simp only [List.getElem?_toArray, List.getElem?_cons_zero, List.getElem?_cons_succ] at s0 s1 s2
     replace e1 := Lh e1
     clear b3
     go_wp2_with (fail)
     refine bodyPost_ret (by simp [results, Tryz.results69, go_sem, *]; try with_reducible rfl) rfl ?_
     exact ⟨rfl, (ShTo.set (ShTo.set (ShTo.set (ShTo.below h.out (k1.out.trans (k3.out.mono k1.out.size))) (a := ⟨v.heap.size + 1, 0, none⟩) (by simp only; omega) (h.out.out (by simp only; omega)) _) (a := ⟨v.heap.size + 1, 1, none⟩) (by simp only; omega) (h.out.out (by simp only; omega)) _) (a := ⟨v.heap.size + 1, 2, none⟩) (by simp only; omega) (h.out.out (by simp only; omega)) _)⟩
end Go.Proofs.YtgnjnpddehdmcaaGreatDoor

namespace Go.Proofs.YtgnjnpddehdmcaaGreatDoor
open Go.RowKit Go.Shelf
set_option linter.unusedSimpArgs false
set_option linter.unusedVariables false
set_option linter.unusedSectionVars false
set_option maxRecDepth 10000
def undoF (x : Sh) (c : Cd) : Bool := hasB x.mem (c.e.1, c.e.2.1, 3)
def fwH (x : Sh) (c : Cd) : Bool := hasB x.mem (c.e.1, c.e.2.1, 1)
def fwR (x : Sh) (c : Cd) : Rp := getR x.mem (c.e.1, c.e.2.1, 1)
def undoR (x : Sh) (c : Cd) : Rp := if undoF x c then (9, 0, noText) else if !fwH x c then (0, 0, noText) else if (fwR x c).1 ≠ 0 then (0, 0, noText) else chgR x c
def undoK (x : Sh) (c : Cd) : Bool := if undoF x c then false else if !fwH x c then true else if (fwR x c).1 ≠ 0 then true else (chgR x c).1 == 0
def forbX (x : Sh) (c : Cd) : Sh := { x with mem := putL 2048 x.mem ⟨(c.e.1, c.e.2.1, 1), c.key, (9, 0, noText)⟩ }
def undoX (x : Sh) (c : Cd) : Sh := if undoF x c then x else if !fwH x c then forbX x c else if (fwR x c).1 ≠ 0 then x else cntX x c
theorem ShW.putMem {base : Nat} {p : Pl} {x : Sh} {w : World} (h : ShW base p x w) (hb : base ≤ w.heap.size) (y : Ef) (key : ByteArray) (r : Rp) (hkey : key.size ≤ 140737488355328) :
  Calls Tryz.prog 70 #[.pointer (some ⟨p.D, 0, none⟩), .agg #[.int .i64 y.1, .int .i64 y.2.1, .int .i64 y.2.2], .string key, .agg #[.int .i64 r.1, .int .i64 r.2.1, .string r.2.2]] w fun e w' => e = .returned (.int .i64 (putC 2048 x.mem ⟨y, key, r⟩)) ∧ ∃ p', ShTo base p p' { x with mem := putL 2048 x.mem ⟨y, key, r⟩ } w w' ∧ shV p' { x with mem := putL 2048 x.mem ⟨y, key, r⟩ } = shV p x := by
 refine (put_any h.mem h.ord hb y key r hkey).mono ?_
 rintro e w' ⟨A', c', rfl, ht, hm⟩
 exact ⟨rfl, _, h.setMem ht hm (ord_putL h.ord) (ok_putL h.okm), rfl⟩
attribute [-go_sem] Instr.loadAt
attribute [local go_sem] loadAt_other
set_option maxHeartbeats 16000000 in
theorem shUndo_any {base : Nat} {p : Pl} {x : Sh} {v : World} (h : ShW base p x v) (hbv : base ≤ v.heap.size) (c : Cd) (hk : c.key.size ≤ 140737488355328) (hd1 : -9223372036854775808 ≤ c.dl) (hd2 : c.dl ≤ 9223372036854775807) : Calls Tryz.prog 68 #[.pointer (some ⟨p.S, 0, none⟩), .agg (cdV c)] v fun e w' => e = .returned (repV (undoR x c) (undoK x c)) ∧ ∃ p', ShTo base p p' (undoX x c) v w' ∧ shV p' (undoX x c) = shV p x := by
 obtain ⟨fr, hfr⟩ : ∃ z, z = undoR x c := ⟨_, rfl⟩
 obtain ⟨fk, hfk⟩ : ∃ z, z = undoK x c := ⟨_, rfl⟩
 obtain ⟨fx, hfx⟩ : ∃ z, z = undoX x c := ⟨_, rfl⟩
 rw [← hfr, ← hfk, ← hfx]
 unfold repV
 unfold undoR at hfr; unfold undoK at hfk; unfold undoX at hfx
 replace hfr := Lh hfr; replace hfk := Lh hfk; replace hfx := Lh hfx
 obtain ⟨W1, hW1⟩ : ∃ W1, W1 = ((v.alloc (.cells (cdV c) 40)).alloc (.cells #[.int .i64 0, .int .i64 0, .string ⟨#[]⟩] 52)) := ⟨_, rfl⟩
 have k1 : Below v.heap.size v W1 := by rw [hW1]; exact ((Below.refl _ v).alloc (Nat.le_refl _) _).alloc (by simp <;> omega) _
 have b0 : W1.heap[v.heap.size]? = some (.cells (cdV c) 40 (0, 0)) := by rw [hW1]; repeat (first | exact hpNewAt _ (by simp) | exact hpNew _ _ | refine (hpOld _ (by simp <;> omega)).trans ?_)
 have b1 : W1.heap[v.heap.size + 1]? = some (.cells #[.int .i64 0, .int .i64 0, .string ⟨#[]⟩] 52 (0, 0)) := by rw [hW1]; repeat (first | exact hpNewAt _ (by simp) | exact hpNew _ _ | refine (hpOld _ (by simp <;> omega)).trans ?_)
 have h1 := h.below k1
 have hSv : ∀ W' : World, Below W1.heap.size W1 W' → (fun W' : World => W'.heap[p.S]? = some (.cells (shV p x) 88 (0, 0)) ∧ W'.heap[v.heap.size]? = some (.cells (cdV c) 40 (0, 0))) W' := fun W' hb => ⟨(h1.below hb).blk, (hb.block _ (blkX b0)).trans b0⟩
 have kx := Below.refl W1.heap.size W1
 have hx0 := blkX b0
 replace h := Lh h; replace h1 := Lh h1; replace k1 := Lh k1; replace b1 := Lh b1; replace b0 := Lh b0; replace hSv := Lh hSv; replace kx := Lh kx
 go_enter Tryz.func68, Tryz.ntmps68
 go_wp2_with (fail)
 rw [← hW1]
 replace hW1 := Lh hW1
 obtain ⟨Ya, hYa⟩ : ∃ W, W = W1.drew := ⟨_, rfl⟩
 have bd : Below W1.heap.size W1 Ya := by rw [hYa]; exact (Below.refl _ _).drew
 have ky := Lh (kx.out.trans (bd.mono kx.out.size))
 obtain ⟨ra, hra⟩ : ∃ z, z = getR x.mem (c.e.1, c.e.2.1, 3) := ⟨_, rfl⟩
 obtain ⟨fa, hfa⟩ : ∃ z, z = hasB x.mem (c.e.1, c.e.2.1, 3) := ⟨_, rfl⟩
 have hgta := fun (W : World) (hb : Below W1.heap.size W1 W) => Get_any (h1.out.below hb).mem h1.out.ord (c.e.1, c.e.2.1, 3)
 simp only [← hra, ← hfa] at hgta
 replace hgta := Lh hgta; replace hra := Lh hra; replace hfa := Lh hfa; replace hYa := Lh hYa
 clear bd
 apply joinArms (F := fun V ab => Found W1 52 ra V ab)
 ·
  intro hfin
  refine wp_region_held_drew (S := (fun W' : World => W'.heap[p.S]? = some (.cells (shV p x) 88 (0, 0)) ∧ W'.heap[v.heap.size]? = some (.cells (cdV c) 40 (0, 0)))) (by kernel_rfl) ?_ (fun hH => ?_)
  ·
   rw [← hYa.out]
   exact hSv.out _ ky.out
  refine tl 0 hH ?_
  refine tl 1 hH ?_
  refine tl 2 hH ?_
  refine tk (i := 3) (v := ?_) (hy := .inl ⟨by rfl, by intro w hSw; obtain ⟨sS, sC⟩ := hSw; have t0 : w.cell? ⟨p.S, 4, none⟩ = some (.pointer (some ⟨p.D, 0, none⟩)) := blkC sS 4; go_simp; first | done | with_reducible rfl⟩) (hS := hH) (h := ?_)
  refine tl 4 hH ?_
  refine tk (i := 5) (v := ?_) (hy := .inl ⟨by rfl, by intro w hSw; obtain ⟨sS, sC⟩ := hSw; have t0 : w.cell? ⟨v.heap.size, 3, none⟩ = some (.int .i64 c.e.1) := blkC sC 3; have t1 : w.cell? ⟨v.heap.size, 4, none⟩ = some (.int .i64 c.e.2.1) := blkC sC 4; have t2 : w.cell? ⟨v.heap.size, 5, none⟩ = some (.int .i64 c.e.2.2) := blkC sC 5; go_simp; first | done | with_reducible rfl⟩) (hS := hH) (h := ?_)
  refine wpAnyH_ready (rs := [6, 11]) (by kernel_rfl) (by simp) ?_
  refine AllReadyH.cons rfl (fun K hK => ?_) ?_
  ·
   clear hH
   try rw [← hYa.out]
   go_simp
   refine (of_any c.e 3 _).mono ?_
   rintro e Ya_6 ⟨rfl, bb⟩
   have kYa_6 := Lh (ky.out.trans (bb.mono ky.out.size))
   clear bb
   refine hK.out _ _ (hSv.out _ kYa_6.out) (fun hH => ?_)
   clear hK K
   refine wpAnyH_ready (rs := [7, 11]) (by kernel_rfl) (by simp) ?_
   refine AllReadyH.cons rfl (fun K hK => ?_) ?_
   ·
    clear hH
    go_simp
    refine (hgta.out _ kYa_6.out).mono ?_
    rintro e Ya_6_7 ⟨rfl, bb⟩
    have kYa_6_7 := Lh (kYa_6.out.trans (bb.mono kYa_6.out.size))
    clear bb
    refine hK.out _ _ (hSv.out _ kYa_6_7.out) (fun hH => ?_)
    clear hK K
    refine tl 8 hH ?_
    refine tl 9 hH ?_
    refine tl 10 hH ?_
    refine wpAnyH_ready (rs := [11]) (by kernel_rfl) (by simp) ?_
    refine AllReadyH.cons rfl (fun K hK => ?_) ?_
    ·
     clear hH
     go_simp
     obtain ⟨Ya_6_7_11, hVV⟩ : ∃ Z, Z = Ya_6_7.alloc (.cells #[.int .i64 0, .int .i64 0, .string ⟨#[]⟩] 52) := ⟨_, rfl⟩
     have bb : Below Ya_6_7.heap.size Ya_6_7 Ya_6_7_11 := by rw [hVV]; exact (Below.refl _ _).alloc (Nat.le_refl _) _
     obtain ⟨ab, hab⟩ : ∃ n, n = Ya_6_7.heap.size := ⟨_, rfl⟩
     have qaYa_6_7_11 := Lh (show Ya_6_7_11.heap[ab]? = some (.cells #[.int .i64 0, .int .i64 0, .string ⟨#[]⟩] 52 (0, 0)) from by rw [hVV, hab]; exact hpNew _ _)
     have hga := Lh (show W1.heap.size ≤ ab from by rw [hab]; exact kYa_6_7.out.size)
     have kYa_6_7_11 := Lh (kYa_6_7.out.trans (bb.mono kYa_6_7.out.size))
     clear bb
     rw [← hVV, ← hab]
     replace hVV := Lh hVV; replace hab := Lh hab
     refine hK.out _ _ (hSv.out _ kYa_6_7_11.out) (fun hH => ?_)
     clear hK K
     refine wpAnyH_ready (rs := [12]) (by kernel_rfl) (by simp) ?_
     refine AllReadyH.cons rfl (fun K hK => ?_) ?_
     ·
      clear hH
      have e0 := blkC qaYa_6_7_11.out 0; have e1 := blkC qaYa_6_7_11.out 1; have e2 := blkC qaYa_6_7_11.out 2; have ef := blkF qaYa_6_7_11.out; have ex := blkX qaYa_6_7_11.out
      simp only [List.getElem?_toArray, List.getElem?_cons_zero, List.getElem?_cons_succ] at e0 e1 e2
      go_simp
      have hfd := found_store kYa_6_7_11.out hga.out qaYa_6_7_11.out rfl ra
      generalize hV9 : ((Ya_6_7_11.setCell ⟨ab, 0, none⟩ (.int .i64 ra.1)).setCell ⟨ab, 1, none⟩ (.int .i64 ra.2.1)).setCell ⟨ab, 2, none⟩ (.string ra.2.2) = V9 at hfd ⊢
      refine hK.out _ _ (hSv.out _ hfd.bel) (fun hH => ?_)
      clear hK K e0 e1 e2 ef ex
      refine tl 13 hH ?_
      refine wpAnyH_done (by kernel_rfl) ?_ _
      clear hH
      exact hfin _ _ hfd
     exact AllReadyH.nil
    exact AllReadyH.nil
   refine AllReadyH.cons rfl (fun K hK => ?_) ?_
   ·
    clear hH
    go_simp
    obtain ⟨Ya_6_11, hVV⟩ : ∃ Z, Z = Ya_6.alloc (.cells #[.int .i64 0, .int .i64 0, .string ⟨#[]⟩] 52) := ⟨_, rfl⟩
    have bb : Below Ya_6.heap.size Ya_6 Ya_6_11 := by rw [hVV]; exact (Below.refl _ _).alloc (Nat.le_refl _) _
    obtain ⟨ab, hab⟩ : ∃ n, n = Ya_6.heap.size := ⟨_, rfl⟩
    have qaYa_6_11 := Lh (show Ya_6_11.heap[ab]? = some (.cells #[.int .i64 0, .int .i64 0, .string ⟨#[]⟩] 52 (0, 0)) from by rw [hVV, hab]; exact hpNew _ _)
    have hga := Lh (show W1.heap.size ≤ ab from by rw [hab]; exact kYa_6.out.size)
    have kYa_6_11 := Lh (kYa_6.out.trans (bb.mono kYa_6.out.size))
    clear bb
    rw [← hVV, ← hab]
    replace hVV := Lh hVV; replace hab := Lh hab
    refine hK.out _ _ (hSv.out _ kYa_6_11.out) (fun hH => ?_)
    clear hK K
    refine wpAnyH_ready (rs := [7]) (by kernel_rfl) (by simp) ?_
    refine AllReadyH.cons rfl (fun K hK => ?_) ?_
    ·
     clear hH
     go_simp
     refine (hgta.out _ kYa_6_11.out).mono ?_
     rintro e Ya_6_7_11 ⟨rfl, bb⟩
     have kYa_6_7_11 := Lh (kYa_6_11.out.trans (bb.mono kYa_6_11.out.size))
     have qaYa_6_7_11 := Lh ((bb.block _ (blkX qaYa_6_11.out)).trans qaYa_6_11.out)
     clear bb
     refine hK.out _ _ (hSv.out _ kYa_6_7_11.out) (fun hH => ?_)
     clear hK K
     refine tl 8 hH ?_
     refine tl 9 hH ?_
     refine tl 10 hH ?_
     refine wpAnyH_ready (rs := [12]) (by kernel_rfl) (by simp) ?_
     refine AllReadyH.cons rfl (fun K hK => ?_) ?_
     ·
      clear hH
      have e0 := blkC qaYa_6_7_11.out 0; have e1 := blkC qaYa_6_7_11.out 1; have e2 := blkC qaYa_6_7_11.out 2; have ef := blkF qaYa_6_7_11.out; have ex := blkX qaYa_6_7_11.out
      simp only [List.getElem?_toArray, List.getElem?_cons_zero, List.getElem?_cons_succ] at e0 e1 e2
      go_simp
      have hfd := found_store kYa_6_7_11.out hga.out qaYa_6_7_11.out rfl ra
      generalize hV9 : ((Ya_6_7_11.setCell ⟨ab, 0, none⟩ (.int .i64 ra.1)).setCell ⟨ab, 1, none⟩ (.int .i64 ra.2.1)).setCell ⟨ab, 2, none⟩ (.string ra.2.2) = V9 at hfd ⊢
      refine hK.out _ _ (hSv.out _ hfd.bel) (fun hH => ?_)
      clear hK K e0 e1 e2 ef ex
      refine tl 13 hH ?_
      refine wpAnyH_done (by kernel_rfl) ?_ _
      clear hH
      exact hfin _ _ hfd
     exact AllReadyH.nil
    exact AllReadyH.nil
   exact AllReadyH.nil
  refine AllReadyH.cons rfl (fun K hK => ?_) ?_
  ·
   clear hH
   try rw [← hYa.out]
   go_simp
   obtain ⟨Ya_11, hVV⟩ : ∃ Z, Z = Ya.alloc (.cells #[.int .i64 0, .int .i64 0, .string ⟨#[]⟩] 52) := ⟨_, rfl⟩
   have bb : Below Ya.heap.size Ya Ya_11 := by rw [hVV]; exact (Below.refl _ _).alloc (Nat.le_refl _) _
   obtain ⟨ab, hab⟩ : ∃ n, n = Ya.heap.size := ⟨_, rfl⟩
   have qaYa_11 := Lh (show Ya_11.heap[ab]? = some (.cells #[.int .i64 0, .int .i64 0, .string ⟨#[]⟩] 52 (0, 0)) from by rw [hVV, hab]; exact hpNew _ _)
   have hga := Lh (show W1.heap.size ≤ ab from by rw [hab]; exact ky.out.size)
   have kYa_11 := Lh (ky.out.trans (bb.mono ky.out.size))
   clear bb
   rw [← hVV, ← hab]
   replace hVV := Lh hVV; replace hab := Lh hab
   refine hK.out _ _ (hSv.out _ kYa_11.out) (fun hH => ?_)
   clear hK K
   refine wpAnyH_ready (rs := [6]) (by kernel_rfl) (by simp) ?_
   refine AllReadyH.cons rfl (fun K hK => ?_) ?_
   ·
    clear hH
    go_simp
    refine (of_any c.e 3 _).mono ?_
    rintro e Ya_6_11 ⟨rfl, bb⟩
    have kYa_6_11 := Lh (kYa_11.out.trans (bb.mono kYa_11.out.size))
    have qaYa_6_11 := Lh ((bb.block _ (blkX qaYa_11.out)).trans qaYa_11.out)
    clear bb
    refine hK.out _ _ (hSv.out _ kYa_6_11.out) (fun hH => ?_)
    clear hK K
    refine wpAnyH_ready (rs := [7]) (by kernel_rfl) (by simp) ?_
    refine AllReadyH.cons rfl (fun K hK => ?_) ?_
    ·
     clear hH
     go_simp
     refine (hgta.out _ kYa_6_11.out).mono ?_
     rintro e Ya_6_7_11 ⟨rfl, bb⟩
     have kYa_6_7_11 := Lh (kYa_6_11.out.trans (bb.mono kYa_6_11.out.size))
     have qaYa_6_7_11 := Lh ((bb.block _ (blkX qaYa_6_11.out)).trans qaYa_6_11.out)
     clear bb
     refine hK.out _ _ (hSv.out _ kYa_6_7_11.out) (fun hH => ?_)
     clear hK K
     refine tl 8 hH ?_
     refine tl 9 hH ?_
     refine tl 10 hH ?_
     refine wpAnyH_ready (rs := [12]) (by kernel_rfl) (by simp) ?_
     refine AllReadyH.cons rfl (fun K hK => ?_) ?_
     ·
      clear hH
      have e0 := blkC qaYa_6_7_11.out 0; have e1 := blkC qaYa_6_7_11.out 1; have e2 := blkC qaYa_6_7_11.out 2; have ef := blkF qaYa_6_7_11.out; have ex := blkX qaYa_6_7_11.out
      simp only [List.getElem?_toArray, List.getElem?_cons_zero, List.getElem?_cons_succ] at e0 e1 e2
      go_simp
      have hfd := found_store kYa_6_7_11.out hga.out qaYa_6_7_11.out rfl ra
      generalize hV9 : ((Ya_6_7_11.setCell ⟨ab, 0, none⟩ (.int .i64 ra.1)).setCell ⟨ab, 1, none⟩ (.int .i64 ra.2.1)).setCell ⟨ab, 2, none⟩ (.string ra.2.2) = V9 at hfd ⊢
      refine hK.out _ _ (hSv.out _ hfd.bel) (fun hH => ?_)
      clear hK K e0 e1 e2 ef ex
      refine tl 13 hH ?_
      refine wpAnyH_done (by kernel_rfl) ?_ _
      clear hH
      exact hfin _ _ hfd
     exact AllReadyH.nil
    exact AllReadyH.nil
   exact AllReadyH.nil
  exact AllReadyH.nil
 ·
  rintro V1 a1 hfda
  have kx := Lh hfda.bel
  have hUF : undoF x c = fa := by unfold undoF; rw [← hfa.out]
  skip
  cases fa with
  | true =>
   have e1 : fr = (9, 0, noText) := by rw [hfr.out, hUF]; simp
   have e2 : fk = false := by rw [hfk.out, hUF]; simp
   have e3 : fx = x := by rw [hfx.out, hUF]; simp
   subst e1; subst e2; subst e3
   go_wp2_with (fail)
   refine (refused_any 9 _).mono ?_
   rintro e V3 ⟨rfl, b3⟩
   have k3 := Lh (kx.out.trans (b3.mono kx.out.size))
   have e1 := (k3.out.block _ (blkX b1.out)).trans b1.out
   have s0 := blkC e1 0
   have s1 := blkC e1 1
   have s2 := blkC e1 2
   have sf := blkF e1; have sx := blkX e1
   simp only [List.getElem?_toArray, List.getElem?_cons_zero, List.getElem?_cons_succ] at s0 s1 s2
   replace e1 := Lh e1
   clear b3
   go_wp2_with (fail)
   refine bodyPost_ret (by simp [results, Tryz.results68, go_sem, *]; try with_reducible rfl) rfl ?_
   exact ⟨rfl, p, (ShTo.set (ShTo.set (ShTo.set (ShTo.below h.out (k1.out.trans (k3.out.mono k1.out.size))) (a := ⟨v.heap.size + 1, 0, none⟩) (by simp only; omega) (h.out.out (by simp only; omega)) _) (a := ⟨v.heap.size + 1, 1, none⟩) (by simp only; omega) (h.out.out (by simp only; omega)) _) (a := ⟨v.heap.size + 1, 2, none⟩) (by simp only; omega) (h.out.out (by simp only; omega)) _), rfl⟩
  | false =>
   go_wp2_with (fail)
   obtain ⟨Yb, hYb⟩ : ∃ W, W = V1.drew := ⟨_, rfl⟩
   have bd : Below V1.heap.size V1 Yb := by rw [hYb]; exact (Below.refl _ _).drew
   have ky := Lh (kx.out.trans (bd.mono kx.out.size))
   obtain ⟨rb, hrb⟩ : ∃ z, z = getR x.mem (c.e.1, c.e.2.1, 1) := ⟨_, rfl⟩
   obtain ⟨fb, hfb⟩ : ∃ z, z = hasB x.mem (c.e.1, c.e.2.1, 1) := ⟨_, rfl⟩
   have hgtb := fun (W : World) (hb : Below W1.heap.size W1 W) => Get_any (h1.out.below hb).mem h1.out.ord (c.e.1, c.e.2.1, 1)
   simp only [← hrb, ← hfb] at hgtb
   replace hgtb := Lh hgtb; replace hrb := Lh hrb; replace hfb := Lh hfb; replace hYb := Lh hYb
   clear bd
   apply joinArms (F := fun V ab => Found W1 52 rb V ab)
   ·
    intro hfin
    refine wp_region_held_drew (S := (fun W' : World => W'.heap[p.S]? = some (.cells (shV p x) 88 (0, 0)) ∧ W'.heap[v.heap.size]? = some (.cells (cdV c) 40 (0, 0)))) (by kernel_rfl) ?_ (fun hH => ?_)
    ·
     rw [← hYb.out]
     exact hSv.out _ ky.out
    refine tl 0 hH ?_
    refine tl 1 hH ?_
    refine tl 2 hH ?_
    refine tk (i := 3) (v := ?_) (hy := .inl ⟨by rfl, by intro w hSw; obtain ⟨sS, sC⟩ := hSw; have t0 : w.cell? ⟨p.S, 4, none⟩ = some (.pointer (some ⟨p.D, 0, none⟩)) := blkC sS 4; go_simp; first | done | with_reducible rfl⟩) (hS := hH) (h := ?_)
    refine tl 4 hH ?_
    refine tk (i := 5) (v := ?_) (hy := .inl ⟨by rfl, by intro w hSw; obtain ⟨sS, sC⟩ := hSw; have t0 : w.cell? ⟨v.heap.size, 3, none⟩ = some (.int .i64 c.e.1) := blkC sC 3; have t1 : w.cell? ⟨v.heap.size, 4, none⟩ = some (.int .i64 c.e.2.1) := blkC sC 4; have t2 : w.cell? ⟨v.heap.size, 5, none⟩ = some (.int .i64 c.e.2.2) := blkC sC 5; go_simp; first | done | with_reducible rfl⟩) (hS := hH) (h := ?_)
    refine wpAnyH_ready (rs := [6, 11]) (by kernel_rfl) (by simp) ?_
    refine AllReadyH.cons rfl (fun K hK => ?_) ?_
    ·
     clear hH
     try rw [← hYb.out]
     go_simp
     refine (of_any c.e 1 _).mono ?_
     rintro e Yb_6 ⟨rfl, bb⟩
     have kYb_6 := Lh (ky.out.trans (bb.mono ky.out.size))
     clear bb
     refine hK.out _ _ (hSv.out _ kYb_6.out) (fun hH => ?_)
     clear hK K
     refine wpAnyH_ready (rs := [7, 11]) (by kernel_rfl) (by simp) ?_
     refine AllReadyH.cons rfl (fun K hK => ?_) ?_
     ·
      clear hH
      go_simp
      refine (hgtb.out _ kYb_6.out).mono ?_
      rintro e Yb_6_7 ⟨rfl, bb⟩
      have kYb_6_7 := Lh (kYb_6.out.trans (bb.mono kYb_6.out.size))
      clear bb
      refine hK.out _ _ (hSv.out _ kYb_6_7.out) (fun hH => ?_)
      clear hK K
      refine tl 8 hH ?_
      refine tl 9 hH ?_
      refine tl 10 hH ?_
      refine wpAnyH_ready (rs := [11]) (by kernel_rfl) (by simp) ?_
      refine AllReadyH.cons rfl (fun K hK => ?_) ?_
      ·
       clear hH
       go_simp
       obtain ⟨Yb_6_7_11, hVV⟩ : ∃ Z, Z = Yb_6_7.alloc (.cells #[.int .i64 0, .int .i64 0, .string ⟨#[]⟩] 52) := ⟨_, rfl⟩
       have bb : Below Yb_6_7.heap.size Yb_6_7 Yb_6_7_11 := by rw [hVV]; exact (Below.refl _ _).alloc (Nat.le_refl _) _
       obtain ⟨ab, hab⟩ : ∃ n, n = Yb_6_7.heap.size := ⟨_, rfl⟩
       have qaYb_6_7_11 := Lh (show Yb_6_7_11.heap[ab]? = some (.cells #[.int .i64 0, .int .i64 0, .string ⟨#[]⟩] 52 (0, 0)) from by rw [hVV, hab]; exact hpNew _ _)
       have hga := Lh (show W1.heap.size ≤ ab from by rw [hab]; exact kYb_6_7.out.size)
       have kYb_6_7_11 := Lh (kYb_6_7.out.trans (bb.mono kYb_6_7.out.size))
       clear bb
       rw [← hVV, ← hab]
       replace hVV := Lh hVV; replace hab := Lh hab
       refine hK.out _ _ (hSv.out _ kYb_6_7_11.out) (fun hH => ?_)
       clear hK K
       refine wpAnyH_ready (rs := [12]) (by kernel_rfl) (by simp) ?_
       refine AllReadyH.cons rfl (fun K hK => ?_) ?_
       ·
        clear hH
        have e0 := blkC qaYb_6_7_11.out 0; have e1 := blkC qaYb_6_7_11.out 1; have e2 := blkC qaYb_6_7_11.out 2; have ef := blkF qaYb_6_7_11.out; have ex := blkX qaYb_6_7_11.out
        simp only [List.getElem?_toArray, List.getElem?_cons_zero, List.getElem?_cons_succ] at e0 e1 e2
        go_simp
        have hfd := found_store kYb_6_7_11.out hga.out qaYb_6_7_11.out rfl rb
        generalize hV9 : ((Yb_6_7_11.setCell ⟨ab, 0, none⟩ (.int .i64 rb.1)).setCell ⟨ab, 1, none⟩ (.int .i64 rb.2.1)).setCell ⟨ab, 2, none⟩ (.string rb.2.2) = V9 at hfd ⊢
        refine hK.out _ _ (hSv.out _ hfd.bel) (fun hH => ?_)
        clear hK K e0 e1 e2 ef ex
        refine tl 13 hH ?_
        refine wpAnyH_done (by kernel_rfl) ?_ _
        clear hH
        exact hfin _ _ hfd
       exact AllReadyH.nil
      exact AllReadyH.nil
     refine AllReadyH.cons rfl (fun K hK => ?_) ?_
     ·
      clear hH
      go_simp
      obtain ⟨Yb_6_11, hVV⟩ : ∃ Z, Z = Yb_6.alloc (.cells #[.int .i64 0, .int .i64 0, .string ⟨#[]⟩] 52) := ⟨_, rfl⟩
      have bb : Below Yb_6.heap.size Yb_6 Yb_6_11 := by rw [hVV]; exact (Below.refl _ _).alloc (Nat.le_refl _) _
      obtain ⟨ab, hab⟩ : ∃ n, n = Yb_6.heap.size := ⟨_, rfl⟩
      have qaYb_6_11 := Lh (show Yb_6_11.heap[ab]? = some (.cells #[.int .i64 0, .int .i64 0, .string ⟨#[]⟩] 52 (0, 0)) from by rw [hVV, hab]; exact hpNew _ _)
      have hga := Lh (show W1.heap.size ≤ ab from by rw [hab]; exact kYb_6.out.size)
      have kYb_6_11 := Lh (kYb_6.out.trans (bb.mono kYb_6.out.size))
      clear bb
      rw [← hVV, ← hab]
      replace hVV := Lh hVV; replace hab := Lh hab
      refine hK.out _ _ (hSv.out _ kYb_6_11.out) (fun hH => ?_)
      clear hK K
      refine wpAnyH_ready (rs := [7]) (by kernel_rfl) (by simp) ?_
      refine AllReadyH.cons rfl (fun K hK => ?_) ?_
      ·
       clear hH
       go_simp
       refine (hgtb.out _ kYb_6_11.out).mono ?_
       rintro e Yb_6_7_11 ⟨rfl, bb⟩
       have kYb_6_7_11 := Lh (kYb_6_11.out.trans (bb.mono kYb_6_11.out.size))
       have qaYb_6_7_11 := Lh ((bb.block _ (blkX qaYb_6_11.out)).trans qaYb_6_11.out)
       clear bb
       refine hK.out _ _ (hSv.out _ kYb_6_7_11.out) (fun hH => ?_)
       clear hK K
       refine tl 8 hH ?_
       refine tl 9 hH ?_
       refine tl 10 hH ?_
       refine wpAnyH_ready (rs := [12]) (by kernel_rfl) (by simp) ?_
       refine AllReadyH.cons rfl (fun K hK => ?_) ?_
       ·
        clear hH
        have e0 := blkC qaYb_6_7_11.out 0; have e1 := blkC qaYb_6_7_11.out 1; have e2 := blkC qaYb_6_7_11.out 2; have ef := blkF qaYb_6_7_11.out; have ex := blkX qaYb_6_7_11.out
        simp only [List.getElem?_toArray, List.getElem?_cons_zero, List.getElem?_cons_succ] at e0 e1 e2
        go_simp
        have hfd := found_store kYb_6_7_11.out hga.out qaYb_6_7_11.out rfl rb
        generalize hV9 : ((Yb_6_7_11.setCell ⟨ab, 0, none⟩ (.int .i64 rb.1)).setCell ⟨ab, 1, none⟩ (.int .i64 rb.2.1)).setCell ⟨ab, 2, none⟩ (.string rb.2.2) = V9 at hfd ⊢
        refine hK.out _ _ (hSv.out _ hfd.bel) (fun hH => ?_)
        clear hK K e0 e1 e2 ef ex
        refine tl 13 hH ?_
        refine wpAnyH_done (by kernel_rfl) ?_ _
        clear hH
        exact hfin _ _ hfd
       exact AllReadyH.nil
      exact AllReadyH.nil
     exact AllReadyH.nil
    refine AllReadyH.cons rfl (fun K hK => ?_) ?_
    ·
     clear hH
     try rw [← hYb.out]
     go_simp
     obtain ⟨Yb_11, hVV⟩ : ∃ Z, Z = Yb.alloc (.cells #[.int .i64 0, .int .i64 0, .string ⟨#[]⟩] 52) := ⟨_, rfl⟩
     have bb : Below Yb.heap.size Yb Yb_11 := by rw [hVV]; exact (Below.refl _ _).alloc (Nat.le_refl _) _
     obtain ⟨ab, hab⟩ : ∃ n, n = Yb.heap.size := ⟨_, rfl⟩
     have qaYb_11 := Lh (show Yb_11.heap[ab]? = some (.cells #[.int .i64 0, .int .i64 0, .string ⟨#[]⟩] 52 (0, 0)) from by rw [hVV, hab]; exact hpNew _ _)
     have hga := Lh (show W1.heap.size ≤ ab from by rw [hab]; exact ky.out.size)
     have kYb_11 := Lh (ky.out.trans (bb.mono ky.out.size))
     clear bb
     rw [← hVV, ← hab]
     replace hVV := Lh hVV; replace hab := Lh hab
     refine hK.out _ _ (hSv.out _ kYb_11.out) (fun hH => ?_)
     clear hK K
     refine wpAnyH_ready (rs := [6]) (by kernel_rfl) (by simp) ?_
     refine AllReadyH.cons rfl (fun K hK => ?_) ?_
     ·
      clear hH
      go_simp
      refine (of_any c.e 1 _).mono ?_
      rintro e Yb_6_11 ⟨rfl, bb⟩
      have kYb_6_11 := Lh (kYb_11.out.trans (bb.mono kYb_11.out.size))
      have qaYb_6_11 := Lh ((bb.block _ (blkX qaYb_11.out)).trans qaYb_11.out)
      clear bb
      refine hK.out _ _ (hSv.out _ kYb_6_11.out) (fun hH => ?_)
      clear hK K
      refine wpAnyH_ready (rs := [7]) (by kernel_rfl) (by simp) ?_
      refine AllReadyH.cons rfl (fun K hK => ?_) ?_
      ·
       clear hH
       go_simp
       refine (hgtb.out _ kYb_6_11.out).mono ?_
       rintro e Yb_6_7_11 ⟨rfl, bb⟩
       have kYb_6_7_11 := Lh (kYb_6_11.out.trans (bb.mono kYb_6_11.out.size))
       have qaYb_6_7_11 := Lh ((bb.block _ (blkX qaYb_6_11.out)).trans qaYb_6_11.out)
       clear bb
       refine hK.out _ _ (hSv.out _ kYb_6_7_11.out) (fun hH => ?_)
       clear hK K
       refine tl 8 hH ?_
       refine tl 9 hH ?_
       refine tl 10 hH ?_
       refine wpAnyH_ready (rs := [12]) (by kernel_rfl) (by simp) ?_
       refine AllReadyH.cons rfl (fun K hK => ?_) ?_
       ·
        clear hH
        have e0 := blkC qaYb_6_7_11.out 0; have e1 := blkC qaYb_6_7_11.out 1; have e2 := blkC qaYb_6_7_11.out 2; have ef := blkF qaYb_6_7_11.out; have ex := blkX qaYb_6_7_11.out
        simp only [List.getElem?_toArray, List.getElem?_cons_zero, List.getElem?_cons_succ] at e0 e1 e2
        go_simp
        have hfd := found_store kYb_6_7_11.out hga.out qaYb_6_7_11.out rfl rb
        generalize hV9 : ((Yb_6_7_11.setCell ⟨ab, 0, none⟩ (.int .i64 rb.1)).setCell ⟨ab, 1, none⟩ (.int .i64 rb.2.1)).setCell ⟨ab, 2, none⟩ (.string rb.2.2) = V9 at hfd ⊢
        refine hK.out _ _ (hSv.out _ hfd.bel) (fun hH => ?_)
        clear hK K e0 e1 e2 ef ex
        refine tl 13 hH ?_
        refine wpAnyH_done (by kernel_rfl) ?_ _
        clear hH
        exact hfin _ _ hfd
       exact AllReadyH.nil
      exact AllReadyH.nil
     exact AllReadyH.nil
    exact AllReadyH.nil
   ·
    rintro V2 a2 hfdb
    have kx2 := Lh hfdb.bel
    clear kx; have kx := kx2; clear kx2
    have qa2 := hfdb.blk
    have z0 := blkC qa2 0; have zx := blkX qa2
    simp only [List.getElem?_toArray, List.getElem?_cons_zero, List.getElem?_cons_succ] at z0
    replace qa2 := Lh qa2
    have hFH : fwH x c = fb := by unfold fwH; rw [← hfb.out]
    have hFR : fwR x c = rb := by unfold fwR; rw [← hrb.out]
    skip
    cases fb with
    | false =>
     have e1 : fr = (0, 0, noText) := by rw [hfr.out, hUF, hFH]; simp
     have e2 : fk = true := by rw [hfk.out, hUF, hFH]; simp
     have e3 : fx = forbX x c := by rw [hfx.out, hUF, hFH]; simp
     subst e1; subst e2; subst e3
     go_wp2_with (fail)
     clear z0 zx
     obtain ⟨Yc, hYc⟩ : ∃ W, W = V2.drew := ⟨_, rfl⟩
     have bd : Below V2.heap.size V2 Yc := by rw [hYc]; exact (Below.refl _ _).drew
     have ky2 := Lh (kx.out.trans (bd.mono kx.out.size))
     clear bd
     replace hYc := Lh hYc
     replace hUF := Lh hUF; replace hFH := Lh hFH; replace hFR := Lh hFR
     refine wp_region_held_drew (S := (fun W' : World => W'.heap[p.S]? = some (.cells (shV p x) 88 (0, 0)) ∧ W'.heap[v.heap.size]? = some (.cells (cdV c) 40 (0, 0)))) (by kernel_rfl) ?_ (fun hH => ?_)
     ·
      rw [← hYc.out]
      exact hSv.out _ ky2.out
     refine tl 0 hH ?_
     refine tl 1 hH ?_
     refine tl 2 hH ?_
     refine tk (i := 3) (v := ?_) (hy := .inl ⟨by rfl, by intro w hSw; obtain ⟨sS, sC⟩ := hSw; have t0 : w.cell? ⟨p.S, 4, none⟩ = some (.pointer (some ⟨p.D, 0, none⟩)) := blkC sS 4; go_simp; first | done | with_reducible rfl⟩) (hS := hH) (h := ?_)
     refine tl 4 hH ?_
     refine tk (i := 5) (v := ?_) (hy := .inl ⟨by rfl, by intro w hSw; obtain ⟨sS, sC⟩ := hSw; have t0 : w.cell? ⟨v.heap.size, 3, none⟩ = some (.int .i64 c.e.1) := blkC sC 3; have t1 : w.cell? ⟨v.heap.size, 4, none⟩ = some (.int .i64 c.e.2.1) := blkC sC 4; have t2 : w.cell? ⟨v.heap.size, 5, none⟩ = some (.int .i64 c.e.2.2) := blkC sC 5; go_simp; first | done | with_reducible rfl⟩) (hS := hH) (h := ?_)
     refine tl 7 hH ?_
     refine tk (i := 8) (v := ?_) (hy := .inl ⟨by rfl, by intro w hSw; obtain ⟨sS, sC⟩ := hSw; have t0 : w.cell? ⟨v.heap.size, 6, none⟩ = some (.string c.key) := blkC sC 6; go_simp; first | done | with_reducible rfl⟩) (hS := hH) (h := ?_)
     refine wpAnyH_ready (rs := [6]) (by kernel_rfl) (by simp) ?_
     refine AllReadyH.cons rfl (fun K hK => ?_) ?_
     ·
      clear hH
      rw [← hYc.out]
      go_simp
      refine (of_any c.e 1 _).mono ?_
      rintro e Z1 ⟨rfl, bb⟩
      have kz1 := Lh (ky2.out.trans (bb.mono ky2.out.size))
      clear bb
      refine hK.out _ _ (hSv.out _ kz1.out) (fun hH => ?_)
      clear hK K
      refine wpAnyH_ready (rs := [9]) (by kernel_rfl) (by simp) ?_
      refine AllReadyH.cons rfl (fun K hK => ?_) ?_
      ·
       clear hH
       go_simp
       refine (refused_any 9 _).mono ?_
       rintro e Z2 ⟨rfl, bb⟩
       have kz2 := Lh (kz1.out.trans (bb.mono kz1.out.size))
       clear bb
       refine hK.out _ _ (hSv.out _ kz2.out) (fun hH => ?_)
       clear hK K
       refine wpAnyH_ready (rs := [10]) (by kernel_rfl) (by simp) ?_
       refine AllReadyH.cons rfl (fun K hK => ?_) ?_
       ·
        clear hH
        go_simp
        have hs2 := h1.out.below kz2.out
        refine (hs2.putMem (Nat.le_trans hbv (k1.out.trans (kz2.out.mono k1.out.size)).size) (c.e.1, c.e.2.1, 1) c.key (9, 0, noText) hk).mono ?_
        rintro e V3 ⟨rfl, p', sh, hsv⟩
        have hsv2 := sh.sh.blk
        rw [sh.same, hsv] at hsv2
        have g0 := sh.blk ((kz2.out.block _ (blkX b0.out)).trans b0.out) (h.out.out (Nat.le_refl _))
        have e1 := sh.blk ((kz2.out.block _ (blkX b1.out)).trans b1.out) (h.out.out (by omega))
        have s0 := blkC e1 0
        have s1 := blkC e1 1
        have s2 := blkC e1 2
        have sf := blkF e1; have sx := blkX e1
        simp only [List.getElem?_toArray, List.getElem?_cons_zero, List.getElem?_cons_succ] at s0 s1 s2
        replace e1 := Lh e1; replace sh := Lh sh
        refine hK.out _ _ ⟨hsv2, g0⟩ (fun hH => ?_)
        clear hK K
        refine wpAnyH_done (by kernel_rfl) ?_ _
        clear hH
        go_wp2_with (fail)
        refine bodyPost_ret (by simp [results, Tryz.results68, go_sem, *]; try with_reducible rfl) rfl ?_
        have hnf : ¬ p'.foot (v.heap.size + 1) := sh.out.nfoot h.out (by omega) (by have := blkX ((kz2.out.block _ (blkX b1.out)).trans b1.out); omega)
        exact ⟨rfl, p', (ShTo.set (ShTo.set (ShTo.set (sh.out.pre (k1.out.trans (kz2.out.mono k1.out.size))) (a := ⟨v.heap.size + 1, 0, none⟩) (by simp only; omega) hnf _) (a := ⟨v.heap.size + 1, 1, none⟩) (by simp only; omega) hnf _) (a := ⟨v.heap.size + 1, 2, none⟩) (by simp only; omega) hnf _), hsv⟩
       exact AllReadyH.nil
      exact AllReadyH.nil
     exact AllReadyH.nil
    | true =>
     by_cases hz : rb.1 = 0
     ·
      skip
      have e1 : fr = chgR x c := by rw [hfr.out, hUF, hFH, hFR, hz]; simp
      have e2 : fk = ((chgR x c).1 == 0) := by rw [hfk.out, hUF, hFH, hFR, hz]; simp
      have e3 : fx = cntX x c := by rw [hfx.out, hUF, hFH, hFR, hz]; simp
      subst e1; subst e2; subst e3
      replace hUF := Lh hUF; replace hFH := Lh hFH; replace hFR := Lh hFR
      have hg := shChange_any (h1.out.below kx.out) c hk hd1 hd2
      have b0' := (kx.out.block _ (blkX b0.out)).trans b0.out
      have hld := cd_load b0'
      have hx0' := blkX b0'
      have b1' := (kx.out.block _ (blkX b1.out)).trans b1.out
      replace b0' := Lh b0'; replace b1' := Lh b1'
      go_wp2_with (fail)
      refine hg.mono ?_
      rintro e V3 ⟨rfl, sh⟩
      have e1 := sh.blk b1'.out (h.out.out (by omega))
      have s0 := blkC e1 0
      have s1 := blkC e1 1
      have s2 := blkC e1 2
      have sf := blkF e1; have sx := blkX e1
      simp only [List.getElem?_toArray, List.getElem?_cons_zero, List.getElem?_cons_succ] at s0 s1 s2
      replace e1 := Lh e1; replace sh := Lh sh
      clear hg hld
      go_wp2_with (fail)
      refine bodyPost_ret (by simp [results, Tryz.results68, go_sem, *]; try with_reducible rfl) rfl ?_
      exact ⟨rfl, p, (ShTo.set (ShTo.set (ShTo.set (sh.out.pre (k1.out.trans (kx.out.mono k1.out.size))) (a := ⟨v.heap.size + 1, 0, none⟩) (by simp only; omega) (h.out.out (by simp only; omega)) _) (a := ⟨v.heap.size + 1, 1, none⟩) (by simp only; omega) (h.out.out (by simp only; omega)) _) (a := ⟨v.heap.size + 1, 2, none⟩) (by simp only; omega) (h.out.out (by simp only; omega)) _), rfl⟩
     ·
      have hz1 : (rb.1 != 0) = true := by simpa using hz
      have e1 : fr = (0, 0, noText) := by rw [hfr.out, hUF, hFH, hFR]; simp [hz]
      have e2 : fk = true := by rw [hfk.out, hUF, hFH, hFR]; simp [hz]
      have e3 : fx = x := by rw [hfx.out, hUF, hFH, hFR]; simp [hz]
      subst e1; subst e2; subst e3
      replace hUF := Lh hUF; replace hFH := Lh hFH; replace hFR := Lh hFR
      have e1 := (kx.out.block _ (blkX b1.out)).trans b1.out
      have s0 := blkC e1 0
      have s1 := blkC e1 1
      have s2 := blkC e1 2
      have sf := blkF e1; have sx := blkX e1
      simp only [List.getElem?_toArray, List.getElem?_cons_zero, List.getElem?_cons_succ] at s0 s1 s2
      replace e1 := Lh e1
      go_wp2_with (fail)
      refine bodyPost_ret (by simp [results, Tryz.results68, go_sem, *]; try with_reducible rfl) rfl ?_
      exact ⟨rfl, p, (ShTo.set (ShTo.set (ShTo.set (ShTo.below h.out (k1.out.trans (kx.out.mono k1.out.size))) (a := ⟨v.heap.size + 1, 0, none⟩) (by simp only; omega) (h.out.out (by simp only; omega)) _) (a := ⟨v.heap.size + 1, 1, none⟩) (by simp only; omega) (h.out.out (by simp only; omega)) _) (a := ⟨v.heap.size + 1, 2, none⟩) (by simp only; omega) (h.out.out (by simp only; omega)) _), rfl⟩
end Go.Proofs.YtgnjnpddehdmcaaGreatDoor
