/- take. -/
import Derived.Test.YtgnjnpddehdmcaaGreatDoorTkI
import Derived.Test.YtgnjnpddehdmcaaGreatDoorRowK
import Derived.Deep.QuietTactic
import Derived.BigQuiet
namespace Go.Proofs.YtgnjnpddehdmcaaGreatDoor
open Go.RowKit Go.Shelf
set_option linter.unusedSimpArgs false
set_option linter.unusedVariables false
set_option linter.unusedSectionVars false
set_option maxRecDepth 10000
attribute [local go_sem ↓] hideAppend
set_option maxHeartbeats 16000000 in
theorem shTake_any {base : Nat} {p : Pl} {x : Sh} {v : World} (h : ShW base p x v) (hbv : base ≤ v.heap.size) (hn : x.own.length ≤ 10000) (r1 r2 : ByteArray) (hr : okG (r1, r2) = true) (hd : ∀ a ∈ x.own ++ [(r1, r2)], ∀ b ∈ x.own ++ [(r1, r2)], a.1 = b.1 → a = b) : Calls Tryz.prog 38 #[.pointer (some ⟨p.S, 0, none⟩), .agg #[.string r1, .string r2]] v fun e w' => e = .returned (.tuple #[]) ∧ ∃ A' c', ShTo base p { p with A := A', c := c' } { x with own := takeG x.own (r1, r2) } v w' := by
 obtain ⟨W1, hW1⟩ : ∃ W1, W1 = (v.alloc (.cells #[.string r1, .string r2] 32)) := ⟨_, rfl⟩
 have k1 : Below v.heap.size v W1 := by rw [hW1]; exact (Below.refl _ v).alloc (Nat.le_refl _) _
 have b0 : W1.heap[v.heap.size]? = some (.cells #[.string r1, .string r2] 32 (0, 0)) := by rw [hW1]; repeat (first | exact hpNewAt _ (by simp) | exact hpNew _ _ | refine (hpOld _ (by simp <;> omega)).trans ?_)
 have h1 := h.below k1
 have hbd := h.lt
 obtain ⟨Y, hY⟩ : ∃ W, W = W1.drew := ⟨_, rfl⟩
 have bd : Below W1.heap.size W1 Y := by rw [hY]; exact (Below.refl _ _).drew
 have ky := k1.trans (bd.mono k1.size)
 have by0 := (bd.block _ (blkX b0)).trans b0
 have hcl := Lh (fun (W : World) (hb : Below v.heap.size v W) => cloneG_any (c := p.c) (h.below hb).gs (by omega))
 have hSv : ∀ W, Below v.heap.size v W → W.heap[v.heap.size]? = some (.cells #[.string r1, .string r2] 32 (0, 0)) → (fun W' : World => W'.heap[p.S]? = some (.cells (shV p x) 88 (0, 0)) ∧ W'.heap[v.heap.size]? = some (.cells #[.string r1, .string r2] 32 (0, 0))) W := fun W hb q => ⟨(hb.block _ hbd).trans h.blk, q⟩
 replace h := Lh h; replace h1 := Lh h1; replace k1 := Lh k1; replace b0 := Lh b0; replace hY := Lh hY; replace bd := Lh bd; replace ky := Lh ky; replace by0 := Lh by0; replace hSv := Lh hSv; replace hd := Lh hd
 go_enter Tryz.func38, Tryz.ntmps38
 go_wp2_with (fail)
 try rw [← hW1]
 replace hW1 := Lh hW1
 apply joinArms6 (F := fun V (A1 : Option Addr) (c1 : Nat) (_ : Option Addr) (_ : Nat) (_ : Nat) => GOwn v.heap.size V A1 (x.own.length + 1) c1 (x.own ++ [(r1, r2)]) ∧ Below v.heap.size v V)
 ·
  intro hfin
  refine wp_region_held_drew (S := (fun W' : World => W'.heap[p.S]? = some (.cells (shV p x) 88 (0, 0)) ∧ W'.heap[v.heap.size]? = some (.cells #[.string r1, .string r2] 32 (0, 0)))) (by kernel_rfl) ?_ (fun hH => ?_)
  ·
   try rw [← hY.out]
   exact hSv.out _ ky.out by0.out
  refine tl 0 hH ?_
  refine tl 1 hH ?_
  refine tl 2 hH ?_
  refine tk (i := 3) (v := ?_) (hy := .inl ⟨by rfl, by intro w hSw; obtain ⟨sS, sC⟩ := hSw; have t0 : w.cell? ⟨p.S, 2, none⟩ = some (.slice p.A x.own.length p.c) := blkC sS 2; go_simp; first | done | with_reducible rfl⟩) (hS := hH) (h := ?_)
  refine tk (i := 5) (v := ?_) (hy := .inl ⟨by rfl, by intro w hSw; obtain ⟨sS, sC⟩ := hSw; have t0 : w.cell? ⟨v.heap.size, 0, none⟩ = some (.string r1) := blkC sC 0; have t1 : w.cell? ⟨v.heap.size, 1, none⟩ = some (.string r2) := blkC sC 1; go_simp; first | done | with_reducible rfl⟩) (hS := hH) (h := ?_)
  refine wpAnyH_ready (rs := [4, 6]) (by kernel_rfl) (by simp) ?_
  refine AllReadyH.cons rfl (fun K hK => ?_) ?_
  ·
   clear hH
   try rw [← hY.out]
   go_simp
   refine (hcl.out _ ky.out).mono ?_
   rintro e Z_4 ⟨A1, c1, rfl, ho, bb⟩
   have ho1 := Lh (GOwn.mono ho ky.out.size)
   have hr1 := Lh (show ∀ g, rowOf A1 = some g → v.heap.size < g from fun g e => Nat.lt_of_lt_of_le (blkX by0.out) (own_row ho g e).1)
   have kZ_4 := Lh (ky.out.trans (bb.mono ky.out.size))
   have qZ_4 := Lh ((bb.block _ (blkX by0.out)).trans by0.out)
   clear bb ho
   refine hK _ _ (hSv.out _ kZ_4.out qZ_4.out) (fun hH => ?_)
   clear hK K
   refine wpAnyH_ready (rs := [6]) (by kernel_rfl) (by simp) ?_
   refine AllReadyH.cons rfl (fun K hK => ?_) ?_
   ·
    clear hH
    go_simp
    obtain ⟨Z_4_6, hVV⟩ : ∃ Z, Z = Z_4.alloc (.cells #[.string r1, .string r2] 32) := ⟨_, rfl⟩
    have bb : Below Z_4.heap.size Z_4 Z_4_6 := by rw [hVV]; exact (Below.refl _ _).alloc (Nat.le_refl _) _
    obtain ⟨lb, hlb⟩ : ∃ n, n = Z_4.heap.size := ⟨_, rfl⟩
    have qlZ_4_6 := Lh (show Z_4_6.heap[lb]? = some (.cells #[.string r1, .string r2] 32 (0, 0)) from by rw [hVV, hlb]; exact hpNew _ _)
    have kZ_4_6 := Lh (kZ_4.out.trans (bb.mono kZ_4.out.size))
    have qZ_4_6 := Lh ((bb.block _ (blkX qZ_4.out)).trans qZ_4.out)
    replace ho1 := Lh (GOwn.keep ho1.out bb)
    clear bb
    rw [← hVV, ← hlb]
    replace hVV := Lh hVV; replace hlb := Lh hlb
    refine hK _ _ (hSv.out _ kZ_4_6.out qZ_4_6.out) (fun hH => ?_)
    clear hK K
    refine wpAnyH_ready (rs := [7]) (by kernel_rfl) (by simp) ?_
    refine AllReadyH.cons rfl (fun K hK => ?_) ?_
    ·
     clear hH
     obtain ⟨A2, c2, V, hrun, ho2, hgr, hat⟩ := GOwn.app (x := (r1, r2)) ho1.out kZ_4_6.out.size qlZ_4_6.out (by omega)
     have kV := Lh (kZ_4_6.out.grown hgr kZ_4_6.out.size (fun g e => (own_row ho1.out g e).1))
     have qV := Lh ((hgr.block _ (blkX qZ_4_6.out) (fun e => Nat.lt_irrefl _ (hr1.out _ e.symm))).trans qZ_4_6.out)
     replace ho2 := Lh ho2
     clear hgr hat
     go_simp
     refine hK _ _ (hSv.out _ kV.out qV.out) (fun hH => ?_)
     clear hK K
     refine tl 8 hH ?_
     refine wpAnyH_done (by kernel_rfl) ?_ _
     clear hH
     exact hfin V A2 c2 A1 c1 lb ⟨ho2.out, kV.out⟩
    exact AllReadyH.nil
   exact AllReadyH.nil
  refine AllReadyH.cons rfl (fun K hK => ?_) ?_
  ·
   clear hH
   try rw [← hY.out]
   go_simp
   obtain ⟨Z_6, hVV⟩ : ∃ Z, Z = Y.alloc (.cells #[.string r1, .string r2] 32) := ⟨_, rfl⟩
   have bb : Below Y.heap.size Y Z_6 := by rw [hVV]; exact (Below.refl _ _).alloc (Nat.le_refl _) _
   obtain ⟨lb, hlb⟩ : ∃ n, n = Y.heap.size := ⟨_, rfl⟩
   have qlZ_6 := Lh (show Z_6.heap[lb]? = some (.cells #[.string r1, .string r2] 32 (0, 0)) from by rw [hVV, hlb]; exact hpNew _ _)
   have kZ_6 := Lh (ky.out.trans (bb.mono ky.out.size))
   have qZ_6 := Lh ((bb.block _ (blkX by0.out)).trans by0.out)
   clear bb
   rw [← hVV, ← hlb]
   replace hVV := Lh hVV; replace hlb := Lh hlb
   refine hK _ _ (hSv.out _ kZ_6.out qZ_6.out) (fun hH => ?_)
   clear hK K
   refine wpAnyH_ready (rs := [4]) (by kernel_rfl) (by simp) ?_
   refine AllReadyH.cons rfl (fun K hK => ?_) ?_
   ·
    clear hH
    go_simp
    refine (hcl.out _ kZ_6.out).mono ?_
    rintro e Z_4_6 ⟨A1, c1, rfl, ho, bb⟩
    have ho1 := Lh (GOwn.mono ho kZ_6.out.size)
    have hr1 := Lh (show ∀ g, rowOf A1 = some g → v.heap.size < g from fun g e => Nat.lt_of_lt_of_le (blkX qZ_6.out) (own_row ho g e).1)
    have kZ_4_6 := Lh (kZ_6.out.trans (bb.mono kZ_6.out.size))
    have qZ_4_6 := Lh ((bb.block _ (blkX qZ_6.out)).trans qZ_6.out)
    have qlZ_4_6 := Lh ((bb.block _ (blkX qlZ_6.out)).trans qlZ_6.out)
    clear bb ho
    refine hK _ _ (hSv.out _ kZ_4_6.out qZ_4_6.out) (fun hH => ?_)
    clear hK K
    refine wpAnyH_ready (rs := [7]) (by kernel_rfl) (by simp) ?_
    refine AllReadyH.cons rfl (fun K hK => ?_) ?_
    ·
     clear hH
     obtain ⟨A2, c2, V, hrun, ho2, hgr, hat⟩ := GOwn.app (x := (r1, r2)) ho1.out kZ_4_6.out.size qlZ_4_6.out (by omega)
     have kV := Lh (kZ_4_6.out.grown hgr kZ_4_6.out.size (fun g e => (own_row ho1.out g e).1))
     have qV := Lh ((hgr.block _ (blkX qZ_4_6.out) (fun e => Nat.lt_irrefl _ (hr1.out _ e.symm))).trans qZ_4_6.out)
     replace ho2 := Lh ho2
     clear hgr hat
     go_simp
     refine hK _ _ (hSv.out _ kV.out qV.out) (fun hH => ?_)
     clear hK K
     refine tl 8 hH ?_
     refine wpAnyH_done (by kernel_rfl) ?_ _
     clear hH
     exact hfin V A2 c2 A1 c1 lb ⟨ho2.out, kV.out⟩
    exact AllReadyH.nil
   exact AllReadyH.nil
  exact AllReadyH.nil
 ·
  rintro V A1 c1 Ax cx lx ⟨hoV, kV⟩
  have hl1 : (x.own ++ [(r1, r2)]).length = x.own.length + 1 := by simp
  have hso := sortG_any kV.size hoV hl1 (by omega) hd.out
  have hrow : ∀ g, rowOf A1 = some g → v.heap.size ≤ g := fun g e => (own_row hoV g e).1
  have hSV := (kV.block _ hbd).trans h.out.blk
  have hlt := h.out.lt
  obtain ⟨srt, hsrt⟩ : ∃ l, l = sortG (x.own ++ [(r1, r2)]) := ⟨_, rfl⟩
  have hsl : srt.length = x.own.length + 1 := by rw [hsrt, sortG_len, hl1]
  rw [← hsrt] at hso
  replace hsrt := Lh hsrt; replace hsl := Lh hsl; replace hl1 := Lh hl1; replace hrow := Lh hrow; replace kV := Lh kV; replace hSV := Lh hSV
  clear hoV bd ky by0 hSv hcl
  go_wp2_with (fail)
  refine hso.mono ?_
  rintro e W3 ⟨rfl, ho3, hg3⟩
  have k3 := Lh (kV.out.grown hg3 kV.out.size (fun g e => hrow.out g e))
  have hS3 := (k3.out.block _ hlt).trans h.out.blk
  have s2 : W3.cell? ⟨p.S, 2, none⟩ = some (.slice p.A x.own.length p.c) := blkC hS3 2
  have hlt3 := blkX hS3
  have f2 := blkF hS3 2
  obtain ⟨W4, hW4⟩ : ∃ W4, W4 = W3.setCell ⟨p.S, 2, none⟩ (.slice none 0 0) := ⟨_, rfl⟩
  have hT : TkI W3 p x [] none 0 W4 := by
   rw [hW4]
   refine ⟨?_, GOwn.nil _ _, (Chg.refl (fun k => k = p.S) W3).setCell (p := ⟨p.S, 2, none⟩) (fun _ => rfl) _, hlt3⟩
   rw [show shV { p with A := none, c := 0 } { x with own := [] } = (shV p x).setIfInBounds 2 (.slice none 0 0) from by unfold shV; simp]
   exact hpSet (i := 2) (v := .slice none 0 0) hS3
  replace ho3 := Lh ho3; replace hS3 := Lh hS3; replace hT := Lh hT; replace hW4 := Lh hW4
  clear hso hg3
  obtain ⟨n1, hn1⟩ : ∃ n1, n1 = x.own.length + 1 := ⟨_, rfl⟩
  clear hSV
  go_wp2_with (fail)
  go_loopw [23] (fun i wr => ∃ (j : Nat) (A' : Option Addr) (c' : Nat), j ≤ x.own.length + 1 ∧ i = .int .i64 j ∧ TkI W3 p x ((srt.take j).foldl stepG []) A' c' wr) (fun i _ => x.own.length + 1 - (intOf i).toNat)
  case atStart => exact ⟨0, none, 0, by omega, rfl, by have := hT.out; rw [hW4.out] at this; exact this⟩
  case round =>
   clear s2 f2 hT
   revert wr
   intro X hrel
   obtain ⟨j, A', c', hj, rfl, hT⟩ := hrel
   have ho4 := GOwn.chg ho3.out hT.chg (fun k e q => by have := hrow.out k e; omega)
   have hgs := ho4.gs hsl.out
   obtain ⟨acc, hacc⟩ : ∃ acc, acc = (srt.take j).foldl stepG [] := ⟨_, rfl⟩
   rw [← hacc] at hT
   have hal : acc.length ≤ j := by
    have := mergeG_len (srt.take j) []
    rw [← hacc] at this
    simp at this; omega
   have c2 : X.cell? ⟨p.S, 2, none⟩ = some (.slice A' acc.length c') := blkC hT.blk 2
   have x2 := blkX hT.blk
   have f2 := blkF hT.blk 2
   by_cases hlt2 : j < x.own.length + 1
   ·
    obtain ⟨b, o, y, rfl, hbl, hx, hc⟩ := SL.at_ hgs hlt2
    obtain ⟨y1, y2⟩ := y
    have t0 := hc 0 _ rfl; have t1 := hc 1 _ rfl
    rw [Nat.add_zero] at t0
    clear hc
    obtain ⟨W6, hW6⟩ : ∃ W, W = X.alloc (.cells #[.string y1, .string y2] 32) := ⟨_, rfl⟩
    have b6 : W6.heap[X.heap.size]? = some (.cells #[.string y1, .string y2] 32 (0, 0)) := by rw [hW6]; exact hpNew X _
    have k6 : Below X.heap.size X W6 := by rw [hW6]; exact (Below.refl _ X).alloc (Nat.le_refl _) _
    obtain ⟨xb, hxb⟩ : ∃ n, n = X.heap.size := ⟨_, rfl⟩
    rw [← hxb] at b6
    have hT6 := hT.below k6
    have j1 : (j : Int) < ((x.own.length + 1 : Nat) : Int) := by omega
    have hnx : (srt.take (j + 1)).foldl stepG [] = stepG acc (y1, y2) := by rw [List.take_add_one, hx, hacc]; simp
    replace ho4 := Lh ho4; replace hgs := Lh hgs; replace hT := Lh hT; replace b6 := Lh b6; replace k6 := Lh k6; replace hT6 := Lh hT6; replace hx := Lh hx; replace hW6 := Lh hW6; replace hxb := Lh hxb; replace hnx := Lh hnx
    clear hacc
    rcases List.eq_nil_or_concat acc with rfl | ⟨a, z, rfl⟩
    ·
     simp only [List.length_nil] at c2 hal
     go_wp2_with (fail)
     rw [← hW6.out, ← hxb.out]
     clear c2 x2 f2 t0 t1
     have d2 : W6.cell? ⟨p.S, 2, none⟩ = some (.slice A' 0 c') := blkC hT6.out.blk 2
     have d0 : W6.cell? ⟨xb, 0, none⟩ = some (.string y1) := blkC b6.out 0
     have d1 : W6.cell? ⟨xb, 1, none⟩ = some (.string y2) := blkC b6.out 1
     have gd : ¬ (0 : Int) ≤ -1 := by omega
     go_quiet (fail)
     have kq := below_drewN (Below.refl W6.heap.size W6) nq
     have hT7 := hT6.out.below kq
     have b7 := (kq.block _ (blkX b6.out)).trans b6.out
     clear d0 d1 d2
     generalize W6.drewN nq = W7 at *
     replace hT7 := Lh hT7; replace b7 := Lh b7; replace kq := Lh kq
     have d2 : W7.cell? ⟨p.S, 2, none⟩ = some (.slice A' 0 c') := blkC hT7.out.blk 2
     have d0 : W7.cell? ⟨xb, 0, none⟩ = some (.string y1) := blkC b7.out 0
     have d1 : W7.cell? ⟨xb, 1, none⟩ = some (.string y2) := blkC b7.out 1
     go_wp2_with (fail)
     clear d0 d1 d2
     try clear hz hz1
     obtain ⟨Y, hY⟩ : ∃ W, W = W7.drew := ⟨_, rfl⟩
     have kY : Below W7.heap.size W7 Y := by rw [hY]; exact (Below.refl _ _).drew
     have hTY := hT7.out.below kY
     have bY := (kY.block _ (blkX b7.out)).trans b7.out
     replace hTY := Lh hTY; replace bY := Lh bY; replace kY := Lh kY; replace hY := Lh hY
     refine wp_region_any (by kernel_rfl) ?_
     try (change wpAny _ _ _ _ _ _ _ (World.drew _))
     refine ta 0 ?_
     refine ta 1 ?_
     refine ta 2 ?_
     refine ta 3 ?_
     refine wpAny_ready (rs := [4, 5]) (by kernel_rfl) (by simp) ?_
     refine AllReady.cons rfl (fun K hK => ?_) ?_
     ·
      have hK' := hK; clear hK; have hK := hK'; clear hK'
      have e2 : Y.cell? ⟨p.S, 2, none⟩ = some (.slice A' 0 c') := by have q := blkC hTY.out.blk 2; simpa [shV] using q
      have e0 : Y.cell? ⟨xb, 0, none⟩ = some (.string y1) := blkC bY.out 0
      have e1 : Y.cell? ⟨xb, 1, none⟩ = some (.string y2) := blkC bY.out 1
      try rw [← hY.out]
      go_simp
      refine hK _ _ ?_
      clear hK K e0 e1 e2
      refine wpAny_ready (rs := [5]) (by kernel_rfl) (by simp) ?_
      refine AllReady.cons rfl (fun K hK => ?_) ?_
      ·
       have hK' := hK; clear hK; have hK := hK'; clear hK'
       have e2 : Y.cell? ⟨p.S, 2, none⟩ = some (.slice A' 0 c') := by have q := blkC hTY.out.blk 2; simpa [shV] using q
       have e0 : Y.cell? ⟨xb, 0, none⟩ = some (.string y1) := blkC bY.out 0
       have e1 : Y.cell? ⟨xb, 1, none⟩ = some (.string y2) := blkC bY.out 1
       try rw [← hY.out]
       go_simp
       refine hK _ _ ?_
       clear hK K e0 e1 e2
       refine wpAny_ready (rs := [6]) (by kernel_rfl) (by simp) ?_
       refine AllReady.cons rfl (fun K hK => ?_) ?_
       ·
        have hK' := hK; clear hK; have hK := hK'; clear hK'
        try rw [← hY.out]
        go_simp
        obtain ⟨Z, hZ⟩ : ∃ Z, Z = Y.alloc (.cells #[.string y1, .string y2] 32) := ⟨_, rfl⟩
        have kZ : Below Y.heap.size Y Z := by rw [hZ]; exact (Below.refl _ _).alloc (Nat.le_refl _) _
        obtain ⟨lb, hlb⟩ : ∃ n, n = Y.heap.size := ⟨_, rfl⟩
        have bl := Lh (show Z.heap[lb]? = some (.cells #[.string y1, .string y2] 32 (0, 0)) from by rw [hZ, hlb]; exact hpNew _ _)
        have hTZ := Lh (hTY.out.below kZ)
        have bZ := Lh ((kZ.block _ (blkX bY.out)).trans bY.out)
        clear kZ
        rw [← hZ, ← hlb]
        replace hZ := Lh hZ; replace hlb := Lh hlb
        refine hK _ _ ?_
        clear hK K
        refine wpAny_ready (rs := [7]) (by kernel_rfl) (by simp) ?_
        refine AllReady.cons rfl (fun K hK => ?_) ?_
        ·
         have hK' := hK; clear hK; have hK := hK'; clear hK'
         obtain ⟨A2, c2', V, hrun, hSk, hTe⟩ := TkI.app (y := (y1, y2)) hTZ.out bl.out (by simp only [List.length_append, List.length_cons, List.length_nil]; omega)
         replace hTe := Lh hTe
         simp only [List.length_nil, Nat.zero_add, List.nil_append] at hrun hTe
         go_simp
         refine hK _ _ ?_
         clear hK K
         refine ta 8 ?_
         refine ta 9 ?_
         refine wpAny_ready (rs := [10]) (by kernel_rfl) (by simp) ?_
         refine AllReady.cons rfl (fun K hK => ?_) ?_
         ·
          have hK' := hK; clear hK; have hK := hK'; clear hK'
          have g0 : V.cell? ⟨p.S, 2, none⟩ = some (.slice A' 0 c') := by have q := blkC (hSk.trans hTZ.out.blk) 2; simpa [shV] using q
          have g2 : V.frozen? ⟨p.S, 2, none⟩ = false := blkF (hSk.trans hTZ.out.blk) 2
          have gx : p.S < V.heap.size := blkX (hSk.trans hTZ.out.blk)
          go_simp
          refine hK _ _ ?_
          clear hK K
          refine wpAny_done (by kernel_rfl) ?_ _
          have hfin : TkI W3 p x ((srt.take (j + 1)).foldl stepG []) A2 c2' (V.setCell ⟨p.S, 2, none⟩ (.slice A2 1 c2')) := by rw [hnx.out]; rw [stepG_none]; exact hTe.out
          clear hSk g0 g2 gx hrun
          replace hfin := Lh hfin
          go_wp2_with (fail)
          exact ⟨⟨j + 1, A2, c2', by omega, by go_num, hfin.out⟩, by simp [intOf]; omega⟩
         exact AllReady.nil
        exact AllReady.nil
       exact AllReady.nil
      exact AllReady.nil
     refine AllReady.cons rfl (fun K hK => ?_) ?_
     ·
      have hK' := hK; clear hK; have hK := hK'; clear hK'
      have e2 : Y.cell? ⟨p.S, 2, none⟩ = some (.slice A' 0 c') := by have q := blkC hTY.out.blk 2; simpa [shV] using q
      have e0 : Y.cell? ⟨xb, 0, none⟩ = some (.string y1) := blkC bY.out 0
      have e1 : Y.cell? ⟨xb, 1, none⟩ = some (.string y2) := blkC bY.out 1
      try rw [← hY.out]
      go_simp
      refine hK _ _ ?_
      clear hK K e0 e1 e2
      refine wpAny_ready (rs := [4, 6]) (by kernel_rfl) (by simp) ?_
      refine AllReady.cons rfl (fun K hK => ?_) ?_
      ·
       have hK' := hK; clear hK; have hK := hK'; clear hK'
       have e2 : Y.cell? ⟨p.S, 2, none⟩ = some (.slice A' 0 c') := by have q := blkC hTY.out.blk 2; simpa [shV] using q
       have e0 : Y.cell? ⟨xb, 0, none⟩ = some (.string y1) := blkC bY.out 0
       have e1 : Y.cell? ⟨xb, 1, none⟩ = some (.string y2) := blkC bY.out 1
       try rw [← hY.out]
       go_simp
       refine hK _ _ ?_
       clear hK K e0 e1 e2
       refine wpAny_ready (rs := [6]) (by kernel_rfl) (by simp) ?_
       refine AllReady.cons rfl (fun K hK => ?_) ?_
       ·
        have hK' := hK; clear hK; have hK := hK'; clear hK'
        try rw [← hY.out]
        go_simp
        obtain ⟨Z, hZ⟩ : ∃ Z, Z = Y.alloc (.cells #[.string y1, .string y2] 32) := ⟨_, rfl⟩
        have kZ : Below Y.heap.size Y Z := by rw [hZ]; exact (Below.refl _ _).alloc (Nat.le_refl _) _
        obtain ⟨lb, hlb⟩ : ∃ n, n = Y.heap.size := ⟨_, rfl⟩
        have bl := Lh (show Z.heap[lb]? = some (.cells #[.string y1, .string y2] 32 (0, 0)) from by rw [hZ, hlb]; exact hpNew _ _)
        have hTZ := Lh (hTY.out.below kZ)
        have bZ := Lh ((kZ.block _ (blkX bY.out)).trans bY.out)
        clear kZ
        rw [← hZ, ← hlb]
        replace hZ := Lh hZ; replace hlb := Lh hlb
        refine hK _ _ ?_
        clear hK K
        refine wpAny_ready (rs := [7]) (by kernel_rfl) (by simp) ?_
        refine AllReady.cons rfl (fun K hK => ?_) ?_
        ·
         have hK' := hK; clear hK; have hK := hK'; clear hK'
         obtain ⟨A2, c2', V, hrun, hSk, hTe⟩ := TkI.app (y := (y1, y2)) hTZ.out bl.out (by simp only [List.length_append, List.length_cons, List.length_nil]; omega)
         replace hTe := Lh hTe
         simp only [List.length_nil, Nat.zero_add, List.nil_append] at hrun hTe
         go_simp
         refine hK _ _ ?_
         clear hK K
         refine ta 8 ?_
         refine ta 9 ?_
         refine wpAny_ready (rs := [10]) (by kernel_rfl) (by simp) ?_
         refine AllReady.cons rfl (fun K hK => ?_) ?_
         ·
          have hK' := hK; clear hK; have hK := hK'; clear hK'
          have g0 : V.cell? ⟨p.S, 2, none⟩ = some (.slice A' 0 c') := by have q := blkC (hSk.trans hTZ.out.blk) 2; simpa [shV] using q
          have g2 : V.frozen? ⟨p.S, 2, none⟩ = false := blkF (hSk.trans hTZ.out.blk) 2
          have gx : p.S < V.heap.size := blkX (hSk.trans hTZ.out.blk)
          go_simp
          refine hK _ _ ?_
          clear hK K
          refine wpAny_done (by kernel_rfl) ?_ _
          have hfin : TkI W3 p x ((srt.take (j + 1)).foldl stepG []) A2 c2' (V.setCell ⟨p.S, 2, none⟩ (.slice A2 1 c2')) := by rw [hnx.out]; rw [stepG_none]; exact hTe.out
          clear hSk g0 g2 gx hrun
          replace hfin := Lh hfin
          go_wp2_with (fail)
          exact ⟨⟨j + 1, A2, c2', by omega, by go_num, hfin.out⟩, by simp [intOf]; omega⟩
         exact AllReady.nil
        exact AllReady.nil
       exact AllReady.nil
      refine AllReady.cons rfl (fun K hK => ?_) ?_
      ·
       have hK' := hK; clear hK; have hK := hK'; clear hK'
       try rw [← hY.out]
       go_simp
       obtain ⟨Z, hZ⟩ : ∃ Z, Z = Y.alloc (.cells #[.string y1, .string y2] 32) := ⟨_, rfl⟩
       have kZ : Below Y.heap.size Y Z := by rw [hZ]; exact (Below.refl _ _).alloc (Nat.le_refl _) _
       obtain ⟨lb, hlb⟩ : ∃ n, n = Y.heap.size := ⟨_, rfl⟩
       have bl := Lh (show Z.heap[lb]? = some (.cells #[.string y1, .string y2] 32 (0, 0)) from by rw [hZ, hlb]; exact hpNew _ _)
       have hTZ := Lh (hTY.out.below kZ)
       have bZ := Lh ((kZ.block _ (blkX bY.out)).trans bY.out)
       clear kZ
       rw [← hZ, ← hlb]
       replace hZ := Lh hZ; replace hlb := Lh hlb
       refine hK _ _ ?_
       clear hK K
       refine wpAny_ready (rs := [4]) (by kernel_rfl) (by simp) ?_
       refine AllReady.cons rfl (fun K hK => ?_) ?_
       ·
        have hK' := hK; clear hK; have hK := hK'; clear hK'
        have e2 : Z.cell? ⟨p.S, 2, none⟩ = some (.slice A' 0 c') := by have q := blkC hTZ.out.blk 2; simpa [shV] using q
        have e0 : Z.cell? ⟨xb, 0, none⟩ = some (.string y1) := blkC bZ.out 0
        have e1 : Z.cell? ⟨xb, 1, none⟩ = some (.string y2) := blkC bZ.out 1
        try rw [← hY.out]
        go_simp
        refine hK _ _ ?_
        clear hK K e0 e1 e2
        refine wpAny_ready (rs := [7]) (by kernel_rfl) (by simp) ?_
        refine AllReady.cons rfl (fun K hK => ?_) ?_
        ·
         have hK' := hK; clear hK; have hK := hK'; clear hK'
         obtain ⟨A2, c2', V, hrun, hSk, hTe⟩ := TkI.app (y := (y1, y2)) hTZ.out bl.out (by simp only [List.length_append, List.length_cons, List.length_nil]; omega)
         replace hTe := Lh hTe
         simp only [List.length_nil, Nat.zero_add, List.nil_append] at hrun hTe
         go_simp
         refine hK _ _ ?_
         clear hK K
         refine ta 8 ?_
         refine ta 9 ?_
         refine wpAny_ready (rs := [10]) (by kernel_rfl) (by simp) ?_
         refine AllReady.cons rfl (fun K hK => ?_) ?_
         ·
          have hK' := hK; clear hK; have hK := hK'; clear hK'
          have g0 : V.cell? ⟨p.S, 2, none⟩ = some (.slice A' 0 c') := by have q := blkC (hSk.trans hTZ.out.blk) 2; simpa [shV] using q
          have g2 : V.frozen? ⟨p.S, 2, none⟩ = false := blkF (hSk.trans hTZ.out.blk) 2
          have gx : p.S < V.heap.size := blkX (hSk.trans hTZ.out.blk)
          go_simp
          refine hK _ _ ?_
          clear hK K
          refine wpAny_done (by kernel_rfl) ?_ _
          have hfin : TkI W3 p x ((srt.take (j + 1)).foldl stepG []) A2 c2' (V.setCell ⟨p.S, 2, none⟩ (.slice A2 1 c2')) := by rw [hnx.out]; rw [stepG_none]; exact hTe.out
          clear hSk g0 g2 gx hrun
          replace hfin := Lh hfin
          go_wp2_with (fail)
          exact ⟨⟨j + 1, A2, c2', by omega, by go_num, hfin.out⟩, by simp [intOf]; omega⟩
         exact AllReady.nil
        exact AllReady.nil
       exact AllReady.nil
      exact AllReady.nil
     exact AllReady.nil
    ·
     simp only [List.concat_eq_append] at hal c2 hT hT6 hnx
     obtain ⟨z1, z2⟩ := z
     have hla : (a ++ [(z1, z2)]).length = a.length + 1 := by simp
     rw [hla] at hal c2
     obtain ⟨gA, rfl⟩ : ∃ gA, A' = some ⟨gA, 0, none⟩ := by
      rcases hT.out.row.2 with ⟨e, _⟩ | ⟨g, cap, cur, e, _⟩
      ·
       simp at e
      ·
       injection e with e; exact ⟨g, e⟩
     obtain ⟨b2, o2, zz, e2, hbl2, hx2, hc2⟩ := SL.at_ hT6.out.gs (i := a.length) (by rw [hla]; omega)
     obtain ⟨rfl, rfl⟩ : gA = b2 ∧ o2 = 0 := by injection e2 with e2; injection e2 with e3 e4; exact ⟨e3, e4.symm⟩
     obtain rfl : (z1, z2) = zz := by simpa using hx2
     have zc := hc2 1 _ rfl
     rw [Nat.zero_add] at zc
     simp only at zc
     clear hc2 hx2 e2
     replace zc := Lh zc; replace hla := Lh hla
     go_wp2_with (fail)
     rw [← hW6.out, ← hxb.out]
     clear c2 x2 f2 t0 t1
     have gd : (0 : Int) ≤ (a.length : Int) := by omega
     have gd2 : (a.length : Int) < (a.length : Int) + 1 := by omega
     have zc6 := zc.out
     by_cases hz : z2 = y1
     ·
      have hz0 := hz.symm
      subst hz0
      replace hnx := Lh (show (srt.take (j + 1)).foldl stepG [] = a ++ [(z1, y2)] from by rw [hnx.out, stepG_snoc, if_pos rfl])
      have d2 : W6.cell? ⟨p.S, 2, none⟩ = some (.slice (some ⟨gA, 0, none⟩) (a.length + 1) c') := by have q := blkC hT6.out.blk 2; simpa [shV] using q
      have d0 : W6.cell? ⟨xb, 0, none⟩ = some (.string y1) := blkC b6.out 0
      have d1 : W6.cell? ⟨xb, 1, none⟩ = some (.string y2) := blkC b6.out 1
      go_quiet (fail)
      have kq := below_drewN (Below.refl W6.heap.size W6) nq
      have hT7 := hT6.out.below kq
      have b7 := (kq.block _ (blkX b6.out)).trans b6.out
      clear d0 d1 d2 zc6
      generalize W6.drewN nq = W7 at *
      replace hT7 := Lh hT7; replace b7 := Lh b7; replace kq := Lh kq
      have zc7 := (kq.out.cell (p := ⟨gA, a.length * 2 + 1, none⟩) hbl2).trans zc.out
      have d2 : W7.cell? ⟨p.S, 2, none⟩ = some (.slice (some ⟨gA, 0, none⟩) (a.length + 1) c') := by have q := blkC hT7.out.blk 2; simpa [shV] using q
      go_wp2_with (fail)
      clear d2
      obtain ⟨Y, hY⟩ : ∃ W, W = W7.drew := ⟨_, rfl⟩
      have kY : Below W7.heap.size W7 Y := by rw [hY]; exact (Below.refl _ _).drew
      have hTY := hT7.out.below kY
      have bY := (kY.block _ (blkX b7.out)).trans b7.out
      obtain ⟨cs, hgA⟩ := row_cells hTY.row rfl
      have v7 := (kY.cell (p := ⟨gA, a.length * 2 + 1, none⟩) (Nat.lt_of_lt_of_le hbl2 kq.out.size)).trans zc7
      replace hTY := Lh hTY; replace bY := Lh bY; replace kY := Lh kY; replace hY := Lh hY; replace hgA := Lh hgA; replace v7 := Lh v7
      clear zc7
      refine wp_region_any (by kernel_rfl) ?_
      try (change wpAny _ _ _ _ _ _ _ (World.drew _))
      refine ta 0 ?_
      refine ta 1 ?_
      refine ta 2 ?_
      refine ta 4 ?_
      refine ta 5 ?_
      refine wpAny_ready (rs := [3, 6]) (by kernel_rfl) (by simp) ?_
      refine AllReady.cons rfl (fun K hK => ?_) ?_
      ·
       have hK' := hK; clear hK; have hK := hK'; clear hK'
       have e2 : Y.cell? ⟨p.S, 2, none⟩ = some (.slice (some ⟨gA, 0, none⟩) (a.length + 1) c') := by have q := blkC hTY.out.blk 2; simpa [shV] using q
       try rw [← hY.out]
       go_simp
       refine hK _ _ ?_
       clear hK K e2
       refine wpAny_ready (rs := [6]) (by kernel_rfl) (by simp) ?_
       refine AllReady.cons rfl (fun K hK => ?_) ?_
       ·
        have hK' := hK; clear hK; have hK := hK'; clear hK'
        have e1 : Y.cell? ⟨xb, 1, none⟩ = some (.string y2) := blkC bY.out 1
        try rw [← hY.out]
        go_simp
        refine hK _ _ ?_
        clear hK K e1
        refine ta 7 ?_
        refine ta 8 ?_
        refine wpAny_ready (rs := [9]) (by kernel_rfl) (by simp) ?_
        refine AllReady.cons rfl (fun K hK => ?_) ?_
        ·
         have hK' := hK; clear hK; have hK := hK'; clear hK'
         have g0 := v7.out
         have g2 : Y.frozen? ⟨gA, a.length * 2 + 1, none⟩ = false := blkF hgA.out _
         have gx : gA < Y.heap.size := blkX hgA.out
         go_simp
         refine hK _ _ ?_
         clear hK K
         refine wpAny_done (by kernel_rfl) ?_ _
         clear g0 g2 gx
         have hfin := TkI.join hTY.out y2
         rw [← hnx.out] at hfin
         replace hfin := Lh hfin
         go_wp2_with (fail)
         exact ⟨⟨j + 1, some ⟨gA, 0, none⟩, c', by omega, by go_num, hfin.out⟩, by simp [intOf]; omega⟩
        exact AllReady.nil
       exact AllReady.nil
      refine AllReady.cons rfl (fun K hK => ?_) ?_
      ·
       have hK' := hK; clear hK; have hK := hK'; clear hK'
       have e1 : Y.cell? ⟨xb, 1, none⟩ = some (.string y2) := blkC bY.out 1
       try rw [← hY.out]
       go_simp
       refine hK _ _ ?_
       clear hK K e1
       refine wpAny_ready (rs := [3]) (by kernel_rfl) (by simp) ?_
       refine AllReady.cons rfl (fun K hK => ?_) ?_
       ·
        have hK' := hK; clear hK; have hK := hK'; clear hK'
        have e2 : Y.cell? ⟨p.S, 2, none⟩ = some (.slice (some ⟨gA, 0, none⟩) (a.length + 1) c') := by have q := blkC hTY.out.blk 2; simpa [shV] using q
        try rw [← hY.out]
        go_simp
        refine hK _ _ ?_
        clear hK K e2
        refine ta 7 ?_
        refine ta 8 ?_
        refine wpAny_ready (rs := [9]) (by kernel_rfl) (by simp) ?_
        refine AllReady.cons rfl (fun K hK => ?_) ?_
        ·
         have hK' := hK; clear hK; have hK := hK'; clear hK'
         have g0 := v7.out
         have g2 : Y.frozen? ⟨gA, a.length * 2 + 1, none⟩ = false := blkF hgA.out _
         have gx : gA < Y.heap.size := blkX hgA.out
         go_simp
         refine hK _ _ ?_
         clear hK K
         refine wpAny_done (by kernel_rfl) ?_ _
         clear g0 g2 gx
         have hfin := TkI.join hTY.out y2
         rw [← hnx.out] at hfin
         replace hfin := Lh hfin
         go_wp2_with (fail)
         exact ⟨⟨j + 1, some ⟨gA, 0, none⟩, c', by omega, by go_num, hfin.out⟩, by simp [intOf]; omega⟩
        exact AllReady.nil
       exact AllReady.nil
      exact AllReady.nil
     ·
      have hz1 : (z2.toList == y1.toList) = false := by rw [tl_eq]; exact decide_eq_false hz
      have hnx2 := hnx.out
      rw [stepG_snoc, if_neg (show ¬ (z1, z2).2 = (y1, y2).1 from hz)] at hnx2
      replace hnx := Lh hnx2
      clear hnx2
      have d2 : W6.cell? ⟨p.S, 2, none⟩ = some (.slice (some ⟨gA, 0, none⟩) (a.length + 1) c') := by have q := blkC hT6.out.blk 2; simpa [shV] using q
      have d0 : W6.cell? ⟨xb, 0, none⟩ = some (.string y1) := blkC b6.out 0
      have d1 : W6.cell? ⟨xb, 1, none⟩ = some (.string y2) := blkC b6.out 1
      go_quiet (fail)
      have kq := below_drewN (Below.refl W6.heap.size W6) nq
      have hT7 := hT6.out.below kq
      have b7 := (kq.block _ (blkX b6.out)).trans b6.out
      clear d0 d1 d2 zc6
      generalize W6.drewN nq = W7 at *
      replace hT7 := Lh hT7; replace b7 := Lh b7; replace kq := Lh kq
      have d2 : W7.cell? ⟨p.S, 2, none⟩ = some (.slice (some ⟨gA, 0, none⟩) (a.length + 1) c') := by have q := blkC hT7.out.blk 2; simpa [shV] using q
      have d0 : W7.cell? ⟨xb, 0, none⟩ = some (.string y1) := blkC b7.out 0
      have d1 : W7.cell? ⟨xb, 1, none⟩ = some (.string y2) := blkC b7.out 1
      go_wp2_with (fail)
      clear d0 d1 d2
      try clear hz hz1
      obtain ⟨Y, hY⟩ : ∃ W, W = W7.drew := ⟨_, rfl⟩
      have kY : Below W7.heap.size W7 Y := by rw [hY]; exact (Below.refl _ _).drew
      have hTY := hT7.out.below kY
      have bY := (kY.block _ (blkX b7.out)).trans b7.out
      replace hTY := Lh hTY; replace bY := Lh bY; replace kY := Lh kY; replace hY := Lh hY
      refine wp_region_any (by kernel_rfl) ?_
      try (change wpAny _ _ _ _ _ _ _ (World.drew _))
      refine ta 0 ?_
      refine ta 1 ?_
      refine ta 2 ?_
      refine ta 3 ?_
      refine wpAny_ready (rs := [4, 5]) (by kernel_rfl) (by simp) ?_
      refine AllReady.cons rfl (fun K hK => ?_) ?_
      ·
       have hK' := hK; clear hK; have hK := hK'; clear hK'
       have e2 : Y.cell? ⟨p.S, 2, none⟩ = some (.slice (some ⟨gA, 0, none⟩) (a.length + 1) c') := by have q := blkC hTY.out.blk 2; simpa [shV] using q
       have e0 : Y.cell? ⟨xb, 0, none⟩ = some (.string y1) := blkC bY.out 0
       have e1 : Y.cell? ⟨xb, 1, none⟩ = some (.string y2) := blkC bY.out 1
       try rw [← hY.out]
       go_simp
       refine hK _ _ ?_
       clear hK K e0 e1 e2
       refine wpAny_ready (rs := [5]) (by kernel_rfl) (by simp) ?_
       refine AllReady.cons rfl (fun K hK => ?_) ?_
       ·
        have hK' := hK; clear hK; have hK := hK'; clear hK'
        have e2 : Y.cell? ⟨p.S, 2, none⟩ = some (.slice (some ⟨gA, 0, none⟩) (a.length + 1) c') := by have q := blkC hTY.out.blk 2; simpa [shV] using q
        have e0 : Y.cell? ⟨xb, 0, none⟩ = some (.string y1) := blkC bY.out 0
        have e1 : Y.cell? ⟨xb, 1, none⟩ = some (.string y2) := blkC bY.out 1
        try rw [← hY.out]
        go_simp
        refine hK _ _ ?_
        clear hK K e0 e1 e2
        refine wpAny_ready (rs := [6]) (by kernel_rfl) (by simp) ?_
        refine AllReady.cons rfl (fun K hK => ?_) ?_
        ·
         have hK' := hK; clear hK; have hK := hK'; clear hK'
         try rw [← hY.out]
         go_simp
         obtain ⟨Z, hZ⟩ : ∃ Z, Z = Y.alloc (.cells #[.string y1, .string y2] 32) := ⟨_, rfl⟩
         have kZ : Below Y.heap.size Y Z := by rw [hZ]; exact (Below.refl _ _).alloc (Nat.le_refl _) _
         obtain ⟨lb, hlb⟩ : ∃ n, n = Y.heap.size := ⟨_, rfl⟩
         have bl := Lh (show Z.heap[lb]? = some (.cells #[.string y1, .string y2] 32 (0, 0)) from by rw [hZ, hlb]; exact hpNew _ _)
         have hTZ := Lh (hTY.out.below kZ)
         have bZ := Lh ((kZ.block _ (blkX bY.out)).trans bY.out)
         clear kZ
         rw [← hZ, ← hlb]
         replace hZ := Lh hZ; replace hlb := Lh hlb
         refine hK _ _ ?_
         clear hK K
         refine wpAny_ready (rs := [7]) (by kernel_rfl) (by simp) ?_
         refine AllReady.cons rfl (fun K hK => ?_) ?_
         ·
          have hK' := hK; clear hK; have hK := hK'; clear hK'
          obtain ⟨A2, c2', V, hrun, hSk, hTe⟩ := TkI.app (y := (y1, y2)) hTZ.out bl.out (by simp only [List.length_append, List.length_cons, List.length_nil]; omega)
          replace hTe := Lh hTe
          simp only [List.length_append, List.length_cons, List.length_nil, Nat.zero_add] at hrun hTe
          go_simp
          refine hK _ _ ?_
          clear hK K
          refine ta 8 ?_
          refine ta 9 ?_
          refine wpAny_ready (rs := [10]) (by kernel_rfl) (by simp) ?_
          refine AllReady.cons rfl (fun K hK => ?_) ?_
          ·
           have hK' := hK; clear hK; have hK := hK'; clear hK'
           have g0 : V.cell? ⟨p.S, 2, none⟩ = some (.slice (some ⟨gA, 0, none⟩) (a.length + 1) c') := by have q := blkC (hSk.trans hTZ.out.blk) 2; simpa [shV] using q
           have g2 : V.frozen? ⟨p.S, 2, none⟩ = false := blkF (hSk.trans hTZ.out.blk) 2
           have gx : p.S < V.heap.size := blkX (hSk.trans hTZ.out.blk)
           go_simp
           refine hK _ _ ?_
           clear hK K
           refine wpAny_done (by kernel_rfl) ?_ _
           have hfin : TkI W3 p x ((srt.take (j + 1)).foldl stepG []) A2 c2' (V.setCell ⟨p.S, 2, none⟩ (.slice A2 (a.length + 1 + 1) c2')) := by rw [hnx.out]; skip; exact hTe.out
           clear hSk g0 g2 gx hrun
           replace hfin := Lh hfin
           go_wp2_with (fail)
           exact ⟨⟨j + 1, A2, c2', by omega, by go_num, hfin.out⟩, by simp [intOf]; omega⟩
          exact AllReady.nil
         exact AllReady.nil
        exact AllReady.nil
       exact AllReady.nil
      refine AllReady.cons rfl (fun K hK => ?_) ?_
      ·
       have hK' := hK; clear hK; have hK := hK'; clear hK'
       have e2 : Y.cell? ⟨p.S, 2, none⟩ = some (.slice (some ⟨gA, 0, none⟩) (a.length + 1) c') := by have q := blkC hTY.out.blk 2; simpa [shV] using q
       have e0 : Y.cell? ⟨xb, 0, none⟩ = some (.string y1) := blkC bY.out 0
       have e1 : Y.cell? ⟨xb, 1, none⟩ = some (.string y2) := blkC bY.out 1
       try rw [← hY.out]
       go_simp
       refine hK _ _ ?_
       clear hK K e0 e1 e2
       refine wpAny_ready (rs := [4, 6]) (by kernel_rfl) (by simp) ?_
       refine AllReady.cons rfl (fun K hK => ?_) ?_
       ·
        have hK' := hK; clear hK; have hK := hK'; clear hK'
        have e2 : Y.cell? ⟨p.S, 2, none⟩ = some (.slice (some ⟨gA, 0, none⟩) (a.length + 1) c') := by have q := blkC hTY.out.blk 2; simpa [shV] using q
        have e0 : Y.cell? ⟨xb, 0, none⟩ = some (.string y1) := blkC bY.out 0
        have e1 : Y.cell? ⟨xb, 1, none⟩ = some (.string y2) := blkC bY.out 1
        try rw [← hY.out]
        go_simp
        refine hK _ _ ?_
        clear hK K e0 e1 e2
        refine wpAny_ready (rs := [6]) (by kernel_rfl) (by simp) ?_
        refine AllReady.cons rfl (fun K hK => ?_) ?_
        ·
         have hK' := hK; clear hK; have hK := hK'; clear hK'
         try rw [← hY.out]
         go_simp
         obtain ⟨Z, hZ⟩ : ∃ Z, Z = Y.alloc (.cells #[.string y1, .string y2] 32) := ⟨_, rfl⟩
         have kZ : Below Y.heap.size Y Z := by rw [hZ]; exact (Below.refl _ _).alloc (Nat.le_refl _) _
         obtain ⟨lb, hlb⟩ : ∃ n, n = Y.heap.size := ⟨_, rfl⟩
         have bl := Lh (show Z.heap[lb]? = some (.cells #[.string y1, .string y2] 32 (0, 0)) from by rw [hZ, hlb]; exact hpNew _ _)
         have hTZ := Lh (hTY.out.below kZ)
         have bZ := Lh ((kZ.block _ (blkX bY.out)).trans bY.out)
         clear kZ
         rw [← hZ, ← hlb]
         replace hZ := Lh hZ; replace hlb := Lh hlb
         refine hK _ _ ?_
         clear hK K
         refine wpAny_ready (rs := [7]) (by kernel_rfl) (by simp) ?_
         refine AllReady.cons rfl (fun K hK => ?_) ?_
         ·
          have hK' := hK; clear hK; have hK := hK'; clear hK'
          obtain ⟨A2, c2', V, hrun, hSk, hTe⟩ := TkI.app (y := (y1, y2)) hTZ.out bl.out (by simp only [List.length_append, List.length_cons, List.length_nil]; omega)
          replace hTe := Lh hTe
          simp only [List.length_append, List.length_cons, List.length_nil, Nat.zero_add] at hrun hTe
          go_simp
          refine hK _ _ ?_
          clear hK K
          refine ta 8 ?_
          refine ta 9 ?_
          refine wpAny_ready (rs := [10]) (by kernel_rfl) (by simp) ?_
          refine AllReady.cons rfl (fun K hK => ?_) ?_
          ·
           have hK' := hK; clear hK; have hK := hK'; clear hK'
           have g0 : V.cell? ⟨p.S, 2, none⟩ = some (.slice (some ⟨gA, 0, none⟩) (a.length + 1) c') := by have q := blkC (hSk.trans hTZ.out.blk) 2; simpa [shV] using q
           have g2 : V.frozen? ⟨p.S, 2, none⟩ = false := blkF (hSk.trans hTZ.out.blk) 2
           have gx : p.S < V.heap.size := blkX (hSk.trans hTZ.out.blk)
           go_simp
           refine hK _ _ ?_
           clear hK K
           refine wpAny_done (by kernel_rfl) ?_ _
           have hfin : TkI W3 p x ((srt.take (j + 1)).foldl stepG []) A2 c2' (V.setCell ⟨p.S, 2, none⟩ (.slice A2 (a.length + 1 + 1) c2')) := by rw [hnx.out]; skip; exact hTe.out
           clear hSk g0 g2 gx hrun
           replace hfin := Lh hfin
           go_wp2_with (fail)
           exact ⟨⟨j + 1, A2, c2', by omega, by go_num, hfin.out⟩, by simp [intOf]; omega⟩
          exact AllReady.nil
         exact AllReady.nil
        exact AllReady.nil
       refine AllReady.cons rfl (fun K hK => ?_) ?_
       ·
        have hK' := hK; clear hK; have hK := hK'; clear hK'
        try rw [← hY.out]
        go_simp
        obtain ⟨Z, hZ⟩ : ∃ Z, Z = Y.alloc (.cells #[.string y1, .string y2] 32) := ⟨_, rfl⟩
        have kZ : Below Y.heap.size Y Z := by rw [hZ]; exact (Below.refl _ _).alloc (Nat.le_refl _) _
        obtain ⟨lb, hlb⟩ : ∃ n, n = Y.heap.size := ⟨_, rfl⟩
        have bl := Lh (show Z.heap[lb]? = some (.cells #[.string y1, .string y2] 32 (0, 0)) from by rw [hZ, hlb]; exact hpNew _ _)
        have hTZ := Lh (hTY.out.below kZ)
        have bZ := Lh ((kZ.block _ (blkX bY.out)).trans bY.out)
        clear kZ
        rw [← hZ, ← hlb]
        replace hZ := Lh hZ; replace hlb := Lh hlb
        refine hK _ _ ?_
        clear hK K
        refine wpAny_ready (rs := [4]) (by kernel_rfl) (by simp) ?_
        refine AllReady.cons rfl (fun K hK => ?_) ?_
        ·
         have hK' := hK; clear hK; have hK := hK'; clear hK'
         have e2 : Z.cell? ⟨p.S, 2, none⟩ = some (.slice (some ⟨gA, 0, none⟩) (a.length + 1) c') := by have q := blkC hTZ.out.blk 2; simpa [shV] using q
         have e0 : Z.cell? ⟨xb, 0, none⟩ = some (.string y1) := blkC bZ.out 0
         have e1 : Z.cell? ⟨xb, 1, none⟩ = some (.string y2) := blkC bZ.out 1
         try rw [← hY.out]
         go_simp
         refine hK _ _ ?_
         clear hK K e0 e1 e2
         refine wpAny_ready (rs := [7]) (by kernel_rfl) (by simp) ?_
         refine AllReady.cons rfl (fun K hK => ?_) ?_
         ·
          have hK' := hK; clear hK; have hK := hK'; clear hK'
          obtain ⟨A2, c2', V, hrun, hSk, hTe⟩ := TkI.app (y := (y1, y2)) hTZ.out bl.out (by simp only [List.length_append, List.length_cons, List.length_nil]; omega)
          replace hTe := Lh hTe
          simp only [List.length_append, List.length_cons, List.length_nil, Nat.zero_add] at hrun hTe
          go_simp
          refine hK _ _ ?_
          clear hK K
          refine ta 8 ?_
          refine ta 9 ?_
          refine wpAny_ready (rs := [10]) (by kernel_rfl) (by simp) ?_
          refine AllReady.cons rfl (fun K hK => ?_) ?_
          ·
           have hK' := hK; clear hK; have hK := hK'; clear hK'
           have g0 : V.cell? ⟨p.S, 2, none⟩ = some (.slice (some ⟨gA, 0, none⟩) (a.length + 1) c') := by have q := blkC (hSk.trans hTZ.out.blk) 2; simpa [shV] using q
           have g2 : V.frozen? ⟨p.S, 2, none⟩ = false := blkF (hSk.trans hTZ.out.blk) 2
           have gx : p.S < V.heap.size := blkX (hSk.trans hTZ.out.blk)
           go_simp
           refine hK _ _ ?_
           clear hK K
           refine wpAny_done (by kernel_rfl) ?_ _
           have hfin : TkI W3 p x ((srt.take (j + 1)).foldl stepG []) A2 c2' (V.setCell ⟨p.S, 2, none⟩ (.slice A2 (a.length + 1 + 1) c2')) := by rw [hnx.out]; skip; exact hTe.out
           clear hSk g0 g2 gx hrun
           replace hfin := Lh hfin
           go_wp2_with (fail)
           exact ⟨⟨j + 1, A2, c2', by omega, by go_num, hfin.out⟩, by simp [intOf]; omega⟩
          exact AllReady.nil
         exact AllReady.nil
        exact AllReady.nil
       exact AllReady.nil
      exact AllReady.nil
   ·
    obtain rfl : j = x.own.length + 1 := by omega
    have hend : (srt.take (x.own.length + 1)).foldl stepG [] = takeG x.own (r1, r2) := by rw [List.take_of_length_le (by rw [hsl.out]; omega), hsrt.out]; rfl
    have h3 := h.out.below k3.out
    have hrow' := hT.row
    rw [hend] at hacc
    subst hacc
    have hto := ShW.setS (ap := x.app) h3 hT.blk (GOwn.mono hT.row (Nat.le_trans hbv k3.out.size)) hT.chg (fun k q => .inr (own_row hT.row k q).1) (takeG_ok h.out.ok hr)
    have hto2 := Lh (hto.pre k3.out)
    clear hto h3 hrow' hgs ho4 hT hal
    go_wp2_with (fail)
    go_end0
    exact ⟨rfl, A', c', hto2.out⟩
end Go.Proofs.YtgnjnpddehdmcaaGreatDoor
