/- Put. -/
import Derived.Test.YtgnjnpddehdmcaaGreatDoorGet
import Derived.Test.YtgnjnpddehdmcaaGreatDoorIns
import Derived.Test.YtgnjnpddehdmcaaGreatDoorHas
import Derived.Deep.QuietTactic
import Derived.BigQuiet
namespace Go.Proofs.YtgnjnpddehdmcaaGreatDoor
open Go.RowKit Go.Shelf
set_option linter.unusedSimpArgs false
set_option linter.unusedVariables false
set_option linter.unusedSectionVars false
set_option maxRecDepth 10000
theorem insert_any {V : World} {base n c : Nat} {A : Option Addr} {l : List En} {vb i : Nat} {x : En} {vcs : Array Value} {T1 : TypeId} (hown : V.ownsRow base 125 7 (.slice A n c) n (flat encP l)) (hl : l.length = n) (hb : base ≤ V.heap.size) (hn : n ≤ 1000000) (hi : i ≤ n)
  (hv : PS V (some ⟨vb, 0, none⟩) 1 [x]) (hvb : V.heap[vb]? = some (.cells vcs T1 (0, 0))) (hne : rowOf A ≠ some vb) :
  Calls Tryz.prog 169 #[.slice A n c, .int .i64 i, .slice (some ⟨vb, 0, none⟩) 1 1] V fun e w' => ∃ v, e = .returned v ∧ Ins V base A n (l.take i ++ x :: l.drop i) v w' := by
 by_cases hin : i = n
 ·
  subst hin
  have := ins_end hown hl hb hn hv
  rw [List.take_of_length_le (by omega), List.drop_eq_nil_of_le (by omega)]
  exact this
 ·
  obtain ⟨g, hA, hg⟩ : ∃ g, A = some ⟨g, 0, none⟩ ∧ g < V.heap.size := by
   rcases hown.2 with ⟨e, _⟩ | ⟨g, cap, cur, e, _, hh, _⟩
   ·
    injection e with _ e; omega
   ·
    injection e with e; exact ⟨g, e, blkX hh⟩
  subst hA
  by_cases hr : n + 1 ≤ c
  ·
   exact ins_room hown hl hn (by omega) hr hv hvb (fun q => hne (by rw [q]; rfl))
  ·
   exact ins_grow hown hl hb hn (by omega) (by omega) hv (blkX hvb)
structure Mv (D : Nat) (A A' : Option Addr) (w w' : World) : Prop where
 chg : Chg (fun k => k = D ∨ rowOf A = some k) w w'
 at_ : rowOf A' = rowOf A ∨ ∃ g, rowOf A' = some g ∧ w.heap.size ≤ g
theorem Mv.pre {D : Nat} {A A' : Option Addr} {w w0 w' : World} (h : Mv D A A' w w') (hb : Below w0.heap.size w0 w) : Mv D A A' w0 w' :=
 ⟨(Chg.of_below hb _).trans h.chg (fun _ _ q => q), h.at_.imp id fun ⟨g, e, q⟩ => ⟨g, e, Nat.le_trans hb.size q⟩⟩
theorem Mv.same {D : Nat} {A : Option Addr} {w w' : World} (hb : Below w.heap.size w w') : Mv D A A w w' := ⟨Chg.of_below hb _, .inl rfl⟩
theorem tab_stored {base D c : Nat} {size : Int} {A : Option Addr} {P l' : List En} {V V' : World} {v : Value} (h : TabP base D size A c P V) (hI : Ins V base A P.length l' v V') (hl : l'.length = P.length + 1) (hlt : (P.length : Int) < size) :
  ∃ A' c', v = .slice A' (P.length + 1) c' ∧ V'.heap[D]? = some (.cells #[.bool true, .int .i64 size, .slice A P.length c] 153 (0, 0)) ∧ TabP base D size A' c' l' (V'.setCell ⟨D, 2, none⟩ (.slice A' (P.length + 1) c')) ∧ Mv D A A' V (V'.setCell ⟨D, 2, none⟩ (.slice A' (P.length + 1) c')) := by
 obtain ⟨A', c', rfl, hown, hgr, hat⟩ := hI
 have hD : V'.heap[D]? = some (.cells #[.bool true, .int .i64 size, .slice A P.length c] 153 (0, 0)) := (hgr.block D h.lt fun e => h.rowNe h.blk (by decide) e.symm).trans h.blk
 refine ⟨A', c', rfl, hD, ⟨h.ge, ?_, ?_, by have := h.sz; omega, h.sz⟩, ⟨?_, hat⟩⟩
 ·
  have := hpSet (i := 2) (v := .slice A' (P.length + 1) c') hD
  rw [hl]
  simpa using this
 ·
  rw [hl]
  rcases hown.2 with e | ⟨g, cp, cur, e1, e2, hh, r⟩
  ·
   exact ⟨by rw [hown.1], .inl e⟩
  ·
   refine ⟨by rw [hown.1], .inr ⟨g, cp, cur, e1, e2, (hpFar ?_).trans hh, r⟩⟩
   rintro rfl
   rw [hD] at hh
   injection hh with hh
   injection hh with _ hh
   exact absurd hh (by decide)
 ·
  exact Chg.setCell (Chg.of_grown (S := fun k => k = D ∨ rowOf A = some k) hgr fun k e => .inr e) (fun _ => .inl rfl) _
theorem en_one (V : World) (r : Rp) (y : Ef) (key : ByteArray) : PS (V.alloc (.cells #[.int .i64 r.1, .int .i64 r.2.1, .string r.2.2, .int .i64 y.1, .int .i64 y.2.1, .int .i64 y.2.2, .string key] 125)) (some ⟨V.heap.size, 0, none⟩) 1 [⟨y, key, r⟩] := by
 refine ⟨rfl, fun _ => ⟨_, _, rfl, by simp, fun i z hz j u hu => ?_⟩⟩
 have hi : i = 0 := by have := (List.getElem?_eq_some_iff.1 hz).1; simp at this; exact this
 subst hi
 simp only [List.getElem?_cons_zero, Option.some.injEq] at hz
 subst hz
 have := blkC (hpNew V (.cells #[.int .i64 r.1, .int .i64 r.2.1, .string r.2.2, .int .i64 y.1, .int .i64 y.2.1, .int .i64 y.2.2, .string key] 125)) (0 + 0 * 7 + j)
 rw [this]
 simpa [encP] using hu
theorem putC_bad {size : Int} {P : List En} {x : En} (h : okP x = false) : putC size P x = 2 ∧ putL size P x = P := by
 have h1 : putC size P x = 2 := by unfold putC; rw [if_neg (by rw [h]; simp)]
 exact ⟨h1, by unfold putL; rw [if_neg (by rw [h1]; decide)]⟩
theorem putC_have {size : Int} {P : List En} {x : En} (h : okP x = true) (h2 : hasB P x.e = true) : putC size P x = 6 ∧ putL size P x = P := by
 have h1 : putC size P x = 6 := by unfold putC; rw [if_pos h, if_pos (show (look P x.e).isSome = true from h2)]
 exact ⟨h1, by unfold putL; rw [if_neg (by rw [h1]; decide)]⟩
theorem putC_full {size : Int} {P : List En} {x : En} (h : okP x = true) (h2 : hasB P x.e = false) (h3 : size ≤ (P.length : Int)) : putC size P x = 4 ∧ putL size P x = P := by
 have h1 : putC size P x = 4 := by unfold putC; rw [if_pos h, if_neg (by unfold hasB at h2; rw [h2]; simp), if_pos h3]
 exact ⟨h1, by unfold putL; rw [if_neg (by rw [h1]; decide)]⟩
theorem putC_in {size : Int} {P : List En} {x : En} (h : okP x = true) (h2 : hasB P x.e = false) (h3 : ¬ size ≤ (P.length : Int)) : putC size P x = 0 ∧ putL size P x = P.take (pos P x.e) ++ x :: P.drop (pos P x.e) := by
 have h1 : putC size P x = 0 := by unfold putC; rw [if_pos h, if_neg (by unfold hasB at h2; rw [h2]; simp), if_neg h3]
 exact ⟨h1, by unfold putL; rw [if_pos h1, ins_pos]⟩
set_option maxHeartbeats 16000000 in
theorem put_any {base D c : Nat} {size : Int} {A : Option Addr} {P : List En} {w : World} (h : TabP base D size A c P w) (ho : Ord P) (hb : base ≤ w.heap.size) (y : Ef) (key : ByteArray) (r : Rp) (hkey : key.size ≤ 140737488355328) :
  Calls Tryz.prog 70 #[.pointer (some ⟨D, 0, none⟩), .agg #[.int .i64 y.1, .int .i64 y.2.1, .int .i64 y.2.2], .string key, .agg #[.int .i64 r.1, .int .i64 r.2.1, .string r.2.2]] w fun e w' => ∃ A' c', e = .returned (.int .i64 (putC size P ⟨y, key, r⟩)) ∧ TabP base D size A' c' (putL size P ⟨y, key, r⟩) w' ∧ Mv D A A' w w' := by
 obtain ⟨OE, hOE⟩ : ∃ O : Obj, O = .cells #[.int .i64 y.1, .int .i64 y.2.1, .int .i64 y.2.2] 30 := ⟨_, rfl⟩
 have kb := ((Below.refl w.heap.size w).alloc (Nat.le_refl _) (.cells #[.int .i64 y.1, .int .i64 y.2.1, .int .i64 y.2.2] 30)).alloc (by simp) (.cells #[.int .i64 r.1, .int .i64 r.2.1, .string r.2.2] 52)
 obtain ⟨W1, hW1⟩ : ∃ W1, W1 = (w.alloc (.cells #[.int .i64 y.1, .int .i64 y.2.1, .int .i64 y.2.2] 30)).alloc (.cells #[.int .i64 r.1, .int .i64 r.2.1, .string r.2.2] 52) := ⟨_, rfl⟩
 have hE : W1.heap[w.heap.size]? = some (.cells #[.int .i64 y.1, .int .i64 y.2.1, .int .i64 y.2.2] 30 (0, 0)) := by rw [hW1, hpOld _ (by simp)]; exact hpNew w _
 have hR : W1.heap[w.heap.size + 1]? = some (.cells #[.int .i64 r.1, .int .i64 r.2.1, .string r.2.2] 52 (0, 0)) := by
  have := hpNew (w.alloc (.cells #[.int .i64 y.1, .int .i64 y.2.1, .int .i64 y.2.2] 30)) (.cells #[.int .i64 r.1, .int .i64 r.2.1, .string r.2.2] 52)
  rw [hW1]; simpa using this
 rw [← hW1] at kb
 have hT := h.below kb
 have hv := valid_any hT
 have hcE := fun W => checkE_any y.1 y.2.1 y.2.2 W
 have hcN := fun W => name_any key hkey W
 have hcR := fun W => isReply_any r.1 r.2.1 r.2.2 W
 have hbad := fun q => putC_bad (size := size) (P := P) (x := ⟨y, key, r⟩) q
 have hhave := fun q1 q2 => putC_have (size := size) (P := P) (x := ⟨y, key, r⟩) q1 q2
 have hfull := fun q1 q2 q3 => putC_full (size := size) (P := P) (x := ⟨y, key, r⟩) q1 q2 q3
 have hinn := fun q1 q2 q3 => putC_in (size := size) (P := P) (x := ⟨y, key, r⟩) q1 q2 q3
 have hokd : okP ⟨y, key, r⟩ = (okE y && nameB key && okR r) := rfl
 have hpl := pos_le P y
 have hfl : (P.take (pos P y) ++ (⟨y, key, r⟩ : En) :: P.drop (pos P y)).length = P.length + 1 := by simp; omega
 generalize hpc : putC size P ⟨y, key, r⟩ = pc at *
 generalize hpL : putL size P ⟨y, key, r⟩ = pL at *
 replace h := Lh h; replace kb := Lh kb; replace hE := Lh hE; replace hR := Lh hR; replace hT := Lh hT; replace hbad := Lh hbad; replace hhave := Lh hhave; replace hfull := Lh hfull; replace hinn := Lh hinn; replace hokd := Lh hokd; replace hpc := Lh hpc; replace hpL := Lh hpL; replace ho := Lh ho; replace hOE := Lh hOE; replace hfl := Lh hfl
 clear OE hOE
 go_enter Tryz.func70, Tryz.ntmps70
 go_wp2_with (fail)
 rw [← hW1]
 replace hW1 := Lh hW1
 have t0 := blkC hE.out 0; have t1 := blkC hE.out 1; have t2 := blkC hE.out 2
 simp only [List.getElem?_toArray, List.getElem?_cons_zero, List.getElem?_cons_succ] at t0 t1 t2
 refine hv.mono ?_
 rintro e w1 ⟨rfl, rfl⟩
 clear hv
 cases hoE : okE y with
 | false =>
  rw [chkE_bad (by rw [hoE]; simp)] at hcE
  obtain ⟨e1, e2⟩ := hbad.out (by rw [hokd.out, hoE]; rfl)
  replace hoE := Lh hoE
  go_wp2_with (fail)
  refine (hcE _).mono ?_
  rintro e w2 ⟨rfl, b2⟩
  have kk := kb.out.trans (b2.mono kb.out.size)
  replace b2 := Lh b2; replace kk := Lh kk; replace e1 := Lh e1; replace e2 := Lh e2
  go_wp2_with (fail)
  go_ret
  exact ⟨A, c, by rw [e1.out]; rfl, by rw [e2.out]; exact h.out.below kk.out, Mv.same kk.out⟩
 | true =>
  rw [chkE_ok (by rw [hoE])] at hcE
  go_wp2_with (fail)
  refine (hcE _).mono ?_
  rintro e w2 ⟨rfl, b2⟩
  have kk := kb.out.trans (b2.mono kb.out.size)
  have hT2 := hT.out.below b2
  have hE2 := (b2.block _ (blkX hE.out)).trans hE.out
  have hR2 := (b2.block _ (blkX hR.out)).trans hR.out
  replace b2 := Lh b2; replace kk := Lh kk; replace hT2 := Lh hT2; replace hE2 := Lh hE2; replace hR2 := Lh hR2
  clear hcE t0 t1 t2
  cases hoN : nameB key with
  | false =>
   simp only [hoN] at hcN
   obtain ⟨e1, e2⟩ := hbad.out (by rw [hokd.out, hoE, hoN]; rfl)
   replace hoE := Lh hoE; replace hoN := Lh hoN; replace e1 := Lh e1; replace e2 := Lh e2
   go_wp2_with (fail)
   refine (hcN _).mono ?_
   rintro e w3 ⟨rfl, b3⟩
   have kk3 := Lh (kk.out.trans (b3.mono kk.out.size))
   clear b3
   go_wp2_with (fail)
   go_ret
   exact ⟨A, c, by rw [e1.out]; rfl, by rw [e2.out]; exact h.out.below kk3.out, Mv.same kk3.out⟩
  | true =>
   simp only [hoN] at hcN
   go_wp2_with (fail)
   refine (hcN _).mono ?_
   rintro e w3 ⟨rfl, b3⟩
   have kk3 := Lh (kk.out.trans (b3.mono kk.out.size))
   have hT3 := Lh (hT2.out.below b3)
   have hE3 := Lh ((b3.block _ (blkX hE2.out)).trans hE2.out)
   have hR3 := (b3.block _ (blkX hR2.out)).trans hR2.out
   have r0 := blkC hR3 0; have r1 := blkC hR3 1; have r2 := blkC hR3 2
   simp only [List.getElem?_toArray, List.getElem?_cons_zero, List.getElem?_cons_succ] at r0 r1 r2
   replace hR3 := Lh hR3
   clear b3 hcN hT2 hE2 hR2
   cases hoR : okR r with
   | false =>
    have hoR' : okR (r.1, r.2.1, r.2.2) = false := hoR
    simp only [hoR'] at hcR
    obtain ⟨e1, e2⟩ := hbad.out (by rw [hokd.out, hoE, hoN, hoR]; rfl)
    replace hoE := Lh hoE; replace hoN := Lh hoN; replace hoR := Lh hoR; replace hoR' := Lh hoR'; replace e1 := Lh e1; replace e2 := Lh e2
    go_wp2_with (fail)
    refine (hcR _).mono ?_
    rintro e w4 ⟨rfl, b4⟩
    have kk4 := Lh (kk3.out.trans (b4.mono kk3.out.size))
    clear b4
    go_wp2_with (fail)
    go_ret
    exact ⟨A, c, by rw [e1.out]; rfl, by rw [e2.out]; exact h.out.below kk4.out, Mv.same kk4.out⟩
   | true =>
    have hoR' : okR (r.1, r.2.1, r.2.2) = true := hoR
    simp only [hoR'] at hcR
    have hokP := Lh (show okP ⟨y, key, r⟩ = true from by rw [hokd.out, hoE, hoN, hoR]; rfl)
    replace hoE := Lh hoE; replace hoN := Lh hoN; replace hoR := Lh hoR; replace hoR' := Lh hoR'
    go_wp2_with (fail)
    refine (hcR _).mono ?_
    rintro e w4 ⟨rfl, b4⟩
    have kk4 := Lh (kk3.out.trans (b4.mono kk3.out.size))
    have hT4 := hT3.out.below b4
    have hE4 := (b4.block _ (blkX hE3.out)).trans hE3.out
    have hR4 := Lh ((b4.block _ (blkX hR3.out)).trans hR3.out)
    have t0 := blkC hE4 0; have t1 := blkC hE4 1; have t2 := blkC hE4 2
    simp only [List.getElem?_toArray, List.getElem?_cons_zero, List.getElem?_cons_succ] at t0 t1 t2
    have hf := find_any hT4 ho.out y
    replace hE4 := Lh hE4; replace hT4 := Lh hT4
    clear b4 hcR hT3 hE3 hR3 r0 r1 r2
    cases hhb : hasB P y with
    | true =>
     rw [hhb] at hf
     obtain ⟨e1, e2⟩ := hhave.out hokP.out hhb
     replace hhb := Lh hhb; replace e1 := Lh e1; replace e2 := Lh e2
     go_wp2_with (fail)
     refine hf.mono ?_
     rintro e w5 ⟨rfl, b5⟩
     have kk5 := Lh (kk4.out.trans (b5.mono kk4.out.size))
     clear b5
     go_wp2_with (fail)
     go_ret
     exact ⟨A, c, by rw [e1.out]; rfl, by rw [e2.out]; exact h.out.below kk5.out, Mv.same kk5.out⟩
    | false =>
     rw [hhb] at hf
     go_wp2_with (fail)
     refine hf.mono ?_
     rintro e w5 ⟨rfl, b5⟩
     have kk5 := Lh (kk4.out.trans (b5.mono kk4.out.size))
     have hT5 := hT4.out.below b5
     have hE5 := Lh ((b5.block _ (blkX hE4.out)).trans hE4.out)
     have hR5 := Lh ((b5.block _ (blkX hR4.out)).trans hR4.out)
     have d1 := blkC hT5.blk 1; have d2 := blkC hT5.blk 2
     simp only [List.getElem?_toArray, List.getElem?_cons_zero, List.getElem?_cons_succ] at d1 d2
     replace hT5 := Lh hT5
     clear b5 hf t0 t1 t2 hT4 hE4 hR4
     by_cases hsz : size ≤ (P.length : Int)
     ·
      obtain ⟨e1, e2⟩ := hfull.out hokP.out hhb hsz
      replace hhb := Lh hhb; replace e1 := Lh e1; replace e2 := Lh e2
      go_wp2_with (fail)
      go_quiet (fail)
      go_wp2_with (fail)
      go_ret
      exact ⟨A, c, by rw [e1.out]; rfl, by rw [e2.out]; exact h.out.below (below_drewN kk5.out _), Mv.same (below_drewN kk5.out _)⟩
     ·
      obtain ⟨e1, e2⟩ := hinn.out hokP.out hhb (by omega)
      replace hhb := Lh hhb; replace e1 := Lh e1; replace e2 := Lh e2
      go_wp2_with (fail)
      go_quiet (fail)
      have kq := below_drewN (Below.refl w5.heap.size w5) nq
      generalize w5.drewN nq = W6 at *
      go_wp2_with (fail)
      refine wp_region_any (by kernel_rfl) ?_
      try (change wpAny _ _ _ _ _ _ _ (World.drew _))
      have kV0 := Lh kq
      have kV := Lh ((kq).drew)
      generalize W6.drew = V at *
      refine ta 0 ?_
      refine ta 1 ?_
      refine ta 2 ?_
      refine ta 3 ?_
      refine ta 5 ?_
      refine ta 8 ?_
      refine wpAny_ready (rs := [4, 6, 7]) (by kernel_rfl) (by simp) ?_
      refine AllReady.cons rfl (fun K hK => ?_) ?_
      ·
       have hK' := hK; clear hK; have hK := hK'; clear hK'
       have hq := (kV.out.block _ hT5.out.lt).trans hT5.out.blk
       have q2 := blkC hq 2
       simp only [List.getElem?_toArray, List.getElem?_cons_zero, List.getElem?_cons_succ] at q2
       replace hq := Lh hq
       go_simp
       refine hK _ _ ?_
       clear hK K
       clear hq q2
       refine wpAny_ready (rs := [6, 7]) (by kernel_rfl) (by simp) ?_
       refine AllReady.cons rfl (fun K hK => ?_) ?_
       ·
        have hK' := hK; clear hK; have hK := hK'; clear hK'
        have hq := (kV.out.block _ (blkX hR5.out)).trans hR5.out
        have q0 := blkC hq 0; have q1 := blkC hq 1; have q2 := blkC hq 2
        simp only [List.getElem?_toArray, List.getElem?_cons_zero, List.getElem?_cons_succ] at q0 q1 q2
        replace hq := Lh hq
        go_simp
        refine hK _ _ ?_
        clear hK K
        clear hq q0 q1 q2
        refine wpAny_ready (rs := [7]) (by kernel_rfl) (by simp) ?_
        refine AllReady.cons rfl (fun K hK => ?_) ?_
        ·
         have hK' := hK; clear hK; have hK := hK'; clear hK'
         have hq := (kV.out.block _ (blkX hE5.out)).trans hE5.out
         have q0 := blkC hq 0; have q1 := blkC hq 1; have q2 := blkC hq 2
         simp only [List.getElem?_toArray, List.getElem?_cons_zero, List.getElem?_cons_succ] at q0 q1 q2
         replace hq := Lh hq
         go_simp
         refine hK _ _ ?_
         clear hK K
         clear hq q0 q1 q2
         refine ta 9 ?_
         refine wpAny_ready (rs := [10]) (by kernel_rfl) (by simp) ?_
         refine AllReady.cons rfl (fun K hK => ?_) ?_
         ·
          have hK' := hK; clear hK; have hK := hK'; clear hK'
          have ks := kV.out.size
          go_simp
          refine hK _ _ ?_
          clear hK K
          have hv1 := Lh (en_one V r y key)
          have hvb := Lh (hpNew V (.cells #[.int .i64 r.1, .int .i64 r.2.1, .string r.2.2, .int .i64 y.1, .int .i64 y.2.1, .int .i64 y.2.2, .string key] 125))
          have kV1 := Lh (kV.out.alloc kV.out.size (.cells #[.int .i64 r.1, .int .i64 r.2.1, .string r.2.2, .int .i64 y.1, .int .i64 y.2.1, .int .i64 y.2.2, .string key] 125))
          clear kV; have kV := kV1; clear kV1
          have hvr : ∀ g, rowOf A = some g → g ≠ V.heap.size := fun g q => by have := (hT5.out.rowLt g q).2; omega
          clear ks
          generalize V.heap.size = vb at *
          generalize V.alloc (.cells #[.int .i64 r.1, .int .i64 r.2.1, .string r.2.2, .int .i64 y.1, .int .i64 y.2.1, .int .i64 y.2.2, .string key] 125) = V at *
          replace hvr := Lh hvr
          refine wpAny_ready (rs := [11]) (by kernel_rfl) (by simp) ?_
          refine AllReady.cons rfl (fun K hK => ?_) ?_
          ·
           have hK' := hK; clear hK; have hK := hK'; clear hK'
           have hTV := hT5.out.below kV.out
           have hcI := insert_any (i := pos P y) hTV.own rfl (Nat.le_trans hb (Nat.le_trans kk5.out.size kV.out.size)) (by have := hTV.le; have := hTV.sz; omega) hpl hv1.out hvb.out (fun q => hvr.out _ q rfl)
           replace hTV := Lh hTV
           go_simp
           go_wp2_with (go_at_call 169; refine hcI.mono ?_; rintro e' V2 ⟨v, rfl, hI⟩; obtain ⟨A', c', rfl, hD2, hT', hM⟩ := tab_stored hTV.out hI hfl.out (by omega); have f0 := blkF hD2 2; have d2' := blkC hD2 2; replace hI := Lh hI; replace hD2 := Lh hD2; replace hT' := Lh hT'; replace hM := Lh hM)
           first | (refine hK _ _ ?_; clear hK K) | skip
           refine ta 12 ?_
           refine ta 13 ?_
           refine wpAny_ready (rs := [14]) (by kernel_rfl) (by simp) ?_
           refine AllReady.cons rfl (fun K hK => ?_) ?_
           ·
            have hK' := hK; clear hK; have hK := hK'; clear hK'
            go_simp
            refine hK _ _ ?_
            clear hK K
            refine wpAny_done (by kernel_rfl) ?_ _
            go_wp2_with (fail)
            go_ret
            exact ⟨A', c', by rw [e1.out]; rfl, by rw [e2.out]; exact hT'.out, hM.out.pre (kk5.out.trans (kV.out.mono kk5.out.size))⟩
           exact AllReady.nil
          exact AllReady.nil
         exact AllReady.nil
        exact AllReady.nil
       refine AllReady.cons rfl (fun K hK => ?_) ?_
       ·
        have hK' := hK; clear hK; have hK := hK'; clear hK'
        have hq := (kV.out.block _ (blkX hE5.out)).trans hE5.out
        have q0 := blkC hq 0; have q1 := blkC hq 1; have q2 := blkC hq 2
        simp only [List.getElem?_toArray, List.getElem?_cons_zero, List.getElem?_cons_succ] at q0 q1 q2
        replace hq := Lh hq
        go_simp
        refine hK _ _ ?_
        clear hK K
        clear hq q0 q1 q2
        refine wpAny_ready (rs := [6]) (by kernel_rfl) (by simp) ?_
        refine AllReady.cons rfl (fun K hK => ?_) ?_
        ·
         have hK' := hK; clear hK; have hK := hK'; clear hK'
         have hq := (kV.out.block _ (blkX hR5.out)).trans hR5.out
         have q0 := blkC hq 0; have q1 := blkC hq 1; have q2 := blkC hq 2
         simp only [List.getElem?_toArray, List.getElem?_cons_zero, List.getElem?_cons_succ] at q0 q1 q2
         replace hq := Lh hq
         go_simp
         refine hK _ _ ?_
         clear hK K
         clear hq q0 q1 q2
         refine ta 9 ?_
         refine wpAny_ready (rs := [10]) (by kernel_rfl) (by simp) ?_
         refine AllReady.cons rfl (fun K hK => ?_) ?_
         ·
          have hK' := hK; clear hK; have hK := hK'; clear hK'
          have ks := kV.out.size
          go_simp
          refine hK _ _ ?_
          clear hK K
          have hv1 := Lh (en_one V r y key)
          have hvb := Lh (hpNew V (.cells #[.int .i64 r.1, .int .i64 r.2.1, .string r.2.2, .int .i64 y.1, .int .i64 y.2.1, .int .i64 y.2.2, .string key] 125))
          have kV1 := Lh (kV.out.alloc kV.out.size (.cells #[.int .i64 r.1, .int .i64 r.2.1, .string r.2.2, .int .i64 y.1, .int .i64 y.2.1, .int .i64 y.2.2, .string key] 125))
          clear kV; have kV := kV1; clear kV1
          have hvr : ∀ g, rowOf A = some g → g ≠ V.heap.size := fun g q => by have := (hT5.out.rowLt g q).2; omega
          clear ks
          generalize V.heap.size = vb at *
          generalize V.alloc (.cells #[.int .i64 r.1, .int .i64 r.2.1, .string r.2.2, .int .i64 y.1, .int .i64 y.2.1, .int .i64 y.2.2, .string key] 125) = V at *
          replace hvr := Lh hvr
          refine wpAny_ready (rs := [11]) (by kernel_rfl) (by simp) ?_
          refine AllReady.cons rfl (fun K hK => ?_) ?_
          ·
           have hK' := hK; clear hK; have hK := hK'; clear hK'
           have hTV := hT5.out.below kV.out
           have hcI := insert_any (i := pos P y) hTV.own rfl (Nat.le_trans hb (Nat.le_trans kk5.out.size kV.out.size)) (by have := hTV.le; have := hTV.sz; omega) hpl hv1.out hvb.out (fun q => hvr.out _ q rfl)
           replace hTV := Lh hTV
           go_simp
           go_wp2_with (go_at_call 169; refine hcI.mono ?_; rintro e' V2 ⟨v, rfl, hI⟩; obtain ⟨A', c', rfl, hD2, hT', hM⟩ := tab_stored hTV.out hI hfl.out (by omega); have f0 := blkF hD2 2; have d2' := blkC hD2 2; replace hI := Lh hI; replace hD2 := Lh hD2; replace hT' := Lh hT'; replace hM := Lh hM)
           first | (refine hK _ _ ?_; clear hK K) | skip
           refine ta 12 ?_
           refine ta 13 ?_
           refine wpAny_ready (rs := [14]) (by kernel_rfl) (by simp) ?_
           refine AllReady.cons rfl (fun K hK => ?_) ?_
           ·
            have hK' := hK; clear hK; have hK := hK'; clear hK'
            go_simp
            refine hK _ _ ?_
            clear hK K
            refine wpAny_done (by kernel_rfl) ?_ _
            go_wp2_with (fail)
            go_ret
            exact ⟨A', c', by rw [e1.out]; rfl, by rw [e2.out]; exact hT'.out, hM.out.pre (kk5.out.trans (kV.out.mono kk5.out.size))⟩
           exact AllReady.nil
          exact AllReady.nil
         exact AllReady.nil
        exact AllReady.nil
       exact AllReady.nil
      refine AllReady.cons rfl (fun K hK => ?_) ?_
      ·
       have hK' := hK; clear hK; have hK := hK'; clear hK'
       have hq := (kV.out.block _ (blkX hR5.out)).trans hR5.out
       have q0 := blkC hq 0; have q1 := blkC hq 1; have q2 := blkC hq 2
       simp only [List.getElem?_toArray, List.getElem?_cons_zero, List.getElem?_cons_succ] at q0 q1 q2
       replace hq := Lh hq
       go_simp
       refine hK _ _ ?_
       clear hK K
       clear hq q0 q1 q2
       refine wpAny_ready (rs := [4, 7]) (by kernel_rfl) (by simp) ?_
       refine AllReady.cons rfl (fun K hK => ?_) ?_
       ·
        have hK' := hK; clear hK; have hK := hK'; clear hK'
        have hq := (kV.out.block _ hT5.out.lt).trans hT5.out.blk
        have q2 := blkC hq 2
        simp only [List.getElem?_toArray, List.getElem?_cons_zero, List.getElem?_cons_succ] at q2
        replace hq := Lh hq
        go_simp
        refine hK _ _ ?_
        clear hK K
        clear hq q2
        refine wpAny_ready (rs := [7]) (by kernel_rfl) (by simp) ?_
        refine AllReady.cons rfl (fun K hK => ?_) ?_
        ·
         have hK' := hK; clear hK; have hK := hK'; clear hK'
         have hq := (kV.out.block _ (blkX hE5.out)).trans hE5.out
         have q0 := blkC hq 0; have q1 := blkC hq 1; have q2 := blkC hq 2
         simp only [List.getElem?_toArray, List.getElem?_cons_zero, List.getElem?_cons_succ] at q0 q1 q2
         replace hq := Lh hq
         go_simp
         refine hK _ _ ?_
         clear hK K
         clear hq q0 q1 q2
         refine ta 9 ?_
         refine wpAny_ready (rs := [10]) (by kernel_rfl) (by simp) ?_
         refine AllReady.cons rfl (fun K hK => ?_) ?_
         ·
          have hK' := hK; clear hK; have hK := hK'; clear hK'
          have ks := kV.out.size
          go_simp
          refine hK _ _ ?_
          clear hK K
          have hv1 := Lh (en_one V r y key)
          have hvb := Lh (hpNew V (.cells #[.int .i64 r.1, .int .i64 r.2.1, .string r.2.2, .int .i64 y.1, .int .i64 y.2.1, .int .i64 y.2.2, .string key] 125))
          have kV1 := Lh (kV.out.alloc kV.out.size (.cells #[.int .i64 r.1, .int .i64 r.2.1, .string r.2.2, .int .i64 y.1, .int .i64 y.2.1, .int .i64 y.2.2, .string key] 125))
          clear kV; have kV := kV1; clear kV1
          have hvr : ∀ g, rowOf A = some g → g ≠ V.heap.size := fun g q => by have := (hT5.out.rowLt g q).2; omega
          clear ks
          generalize V.heap.size = vb at *
          generalize V.alloc (.cells #[.int .i64 r.1, .int .i64 r.2.1, .string r.2.2, .int .i64 y.1, .int .i64 y.2.1, .int .i64 y.2.2, .string key] 125) = V at *
          replace hvr := Lh hvr
          refine wpAny_ready (rs := [11]) (by kernel_rfl) (by simp) ?_
          refine AllReady.cons rfl (fun K hK => ?_) ?_
          ·
           have hK' := hK; clear hK; have hK := hK'; clear hK'
           have hTV := hT5.out.below kV.out
           have hcI := insert_any (i := pos P y) hTV.own rfl (Nat.le_trans hb (Nat.le_trans kk5.out.size kV.out.size)) (by have := hTV.le; have := hTV.sz; omega) hpl hv1.out hvb.out (fun q => hvr.out _ q rfl)
           replace hTV := Lh hTV
           go_simp
           go_wp2_with (go_at_call 169; refine hcI.mono ?_; rintro e' V2 ⟨v, rfl, hI⟩; obtain ⟨A', c', rfl, hD2, hT', hM⟩ := tab_stored hTV.out hI hfl.out (by omega); have f0 := blkF hD2 2; have d2' := blkC hD2 2; replace hI := Lh hI; replace hD2 := Lh hD2; replace hT' := Lh hT'; replace hM := Lh hM)
           first | (refine hK _ _ ?_; clear hK K) | skip
           refine ta 12 ?_
           refine ta 13 ?_
           refine wpAny_ready (rs := [14]) (by kernel_rfl) (by simp) ?_
           refine AllReady.cons rfl (fun K hK => ?_) ?_
           ·
            have hK' := hK; clear hK; have hK := hK'; clear hK'
            go_simp
            refine hK _ _ ?_
            clear hK K
            refine wpAny_done (by kernel_rfl) ?_ _
            go_wp2_with (fail)
            go_ret
            exact ⟨A', c', by rw [e1.out]; rfl, by rw [e2.out]; exact hT'.out, hM.out.pre (kk5.out.trans (kV.out.mono kk5.out.size))⟩
           exact AllReady.nil
          exact AllReady.nil
         exact AllReady.nil
        exact AllReady.nil
       refine AllReady.cons rfl (fun K hK => ?_) ?_
       ·
        have hK' := hK; clear hK; have hK := hK'; clear hK'
        have hq := (kV.out.block _ (blkX hE5.out)).trans hE5.out
        have q0 := blkC hq 0; have q1 := blkC hq 1; have q2 := blkC hq 2
        simp only [List.getElem?_toArray, List.getElem?_cons_zero, List.getElem?_cons_succ] at q0 q1 q2
        replace hq := Lh hq
        go_simp
        refine hK _ _ ?_
        clear hK K
        clear hq q0 q1 q2
        refine ta 9 ?_
        refine wpAny_ready (rs := [4, 10]) (by kernel_rfl) (by simp) ?_
        refine AllReady.cons rfl (fun K hK => ?_) ?_
        ·
         have hK' := hK; clear hK; have hK := hK'; clear hK'
         have hq := (kV.out.block _ hT5.out.lt).trans hT5.out.blk
         have q2 := blkC hq 2
         simp only [List.getElem?_toArray, List.getElem?_cons_zero, List.getElem?_cons_succ] at q2
         replace hq := Lh hq
         go_simp
         refine hK _ _ ?_
         clear hK K
         clear hq q2
         refine wpAny_ready (rs := [10]) (by kernel_rfl) (by simp) ?_
         refine AllReady.cons rfl (fun K hK => ?_) ?_
         ·
          have hK' := hK; clear hK; have hK := hK'; clear hK'
          have ks := kV.out.size
          go_simp
          refine hK _ _ ?_
          clear hK K
          have hv1 := Lh (en_one V r y key)
          have hvb := Lh (hpNew V (.cells #[.int .i64 r.1, .int .i64 r.2.1, .string r.2.2, .int .i64 y.1, .int .i64 y.2.1, .int .i64 y.2.2, .string key] 125))
          have kV1 := Lh (kV.out.alloc kV.out.size (.cells #[.int .i64 r.1, .int .i64 r.2.1, .string r.2.2, .int .i64 y.1, .int .i64 y.2.1, .int .i64 y.2.2, .string key] 125))
          clear kV; have kV := kV1; clear kV1
          have hvr : ∀ g, rowOf A = some g → g ≠ V.heap.size := fun g q => by have := (hT5.out.rowLt g q).2; omega
          clear ks
          generalize V.heap.size = vb at *
          generalize V.alloc (.cells #[.int .i64 r.1, .int .i64 r.2.1, .string r.2.2, .int .i64 y.1, .int .i64 y.2.1, .int .i64 y.2.2, .string key] 125) = V at *
          replace hvr := Lh hvr
          refine wpAny_ready (rs := [11]) (by kernel_rfl) (by simp) ?_
          refine AllReady.cons rfl (fun K hK => ?_) ?_
          ·
           have hK' := hK; clear hK; have hK := hK'; clear hK'
           have hTV := hT5.out.below kV.out
           have hcI := insert_any (i := pos P y) hTV.own rfl (Nat.le_trans hb (Nat.le_trans kk5.out.size kV.out.size)) (by have := hTV.le; have := hTV.sz; omega) hpl hv1.out hvb.out (fun q => hvr.out _ q rfl)
           replace hTV := Lh hTV
           go_simp
           go_wp2_with (go_at_call 169; refine hcI.mono ?_; rintro e' V2 ⟨v, rfl, hI⟩; obtain ⟨A', c', rfl, hD2, hT', hM⟩ := tab_stored hTV.out hI hfl.out (by omega); have f0 := blkF hD2 2; have d2' := blkC hD2 2; replace hI := Lh hI; replace hD2 := Lh hD2; replace hT' := Lh hT'; replace hM := Lh hM)
           first | (refine hK _ _ ?_; clear hK K) | skip
           refine ta 12 ?_
           refine ta 13 ?_
           refine wpAny_ready (rs := [14]) (by kernel_rfl) (by simp) ?_
           refine AllReady.cons rfl (fun K hK => ?_) ?_
           ·
            have hK' := hK; clear hK; have hK := hK'; clear hK'
            go_simp
            refine hK _ _ ?_
            clear hK K
            refine wpAny_done (by kernel_rfl) ?_ _
            go_wp2_with (fail)
            go_ret
            exact ⟨A', c', by rw [e1.out]; rfl, by rw [e2.out]; exact hT'.out, hM.out.pre (kk5.out.trans (kV.out.mono kk5.out.size))⟩
           exact AllReady.nil
          exact AllReady.nil
         exact AllReady.nil
        refine AllReady.cons rfl (fun K hK => ?_) ?_
        ·
         have hK' := hK; clear hK; have hK := hK'; clear hK'
         have ks := kV.out.size
         go_simp
         refine hK _ _ ?_
         clear hK K
         have hv1 := Lh (en_one V r y key)
         have hvb := Lh (hpNew V (.cells #[.int .i64 r.1, .int .i64 r.2.1, .string r.2.2, .int .i64 y.1, .int .i64 y.2.1, .int .i64 y.2.2, .string key] 125))
         have kV1 := Lh (kV.out.alloc kV.out.size (.cells #[.int .i64 r.1, .int .i64 r.2.1, .string r.2.2, .int .i64 y.1, .int .i64 y.2.1, .int .i64 y.2.2, .string key] 125))
         clear kV; have kV := kV1; clear kV1
         have hvr : ∀ g, rowOf A = some g → g ≠ V.heap.size := fun g q => by have := (hT5.out.rowLt g q).2; omega
         clear ks
         generalize V.heap.size = vb at *
         generalize V.alloc (.cells #[.int .i64 r.1, .int .i64 r.2.1, .string r.2.2, .int .i64 y.1, .int .i64 y.2.1, .int .i64 y.2.2, .string key] 125) = V at *
         replace hvr := Lh hvr
         refine wpAny_ready (rs := [4]) (by kernel_rfl) (by simp) ?_
         refine AllReady.cons rfl (fun K hK => ?_) ?_
         ·
          have hK' := hK; clear hK; have hK := hK'; clear hK'
          have hq := (kV.out.block _ hT5.out.lt).trans hT5.out.blk
          have q2 := blkC hq 2
          simp only [List.getElem?_toArray, List.getElem?_cons_zero, List.getElem?_cons_succ] at q2
          replace hq := Lh hq
          go_simp
          refine hK _ _ ?_
          clear hK K
          clear hq q2
          refine wpAny_ready (rs := [11]) (by kernel_rfl) (by simp) ?_
          refine AllReady.cons rfl (fun K hK => ?_) ?_
          ·
           have hK' := hK; clear hK; have hK := hK'; clear hK'
           have hTV := hT5.out.below kV.out
           have hcI := insert_any (i := pos P y) hTV.own rfl (Nat.le_trans hb (Nat.le_trans kk5.out.size kV.out.size)) (by have := hTV.le; have := hTV.sz; omega) hpl hv1.out hvb.out (fun q => hvr.out _ q rfl)
           replace hTV := Lh hTV
           go_simp
           go_wp2_with (go_at_call 169; refine hcI.mono ?_; rintro e' V2 ⟨v, rfl, hI⟩; obtain ⟨A', c', rfl, hD2, hT', hM⟩ := tab_stored hTV.out hI hfl.out (by omega); have f0 := blkF hD2 2; have d2' := blkC hD2 2; replace hI := Lh hI; replace hD2 := Lh hD2; replace hT' := Lh hT'; replace hM := Lh hM)
           first | (refine hK _ _ ?_; clear hK K) | skip
           refine ta 12 ?_
           refine ta 13 ?_
           refine wpAny_ready (rs := [14]) (by kernel_rfl) (by simp) ?_
           refine AllReady.cons rfl (fun K hK => ?_) ?_
           ·
            have hK' := hK; clear hK; have hK := hK'; clear hK'
            go_simp
            refine hK _ _ ?_
            clear hK K
            refine wpAny_done (by kernel_rfl) ?_ _
            go_wp2_with (fail)
            go_ret
            exact ⟨A', c', by rw [e1.out]; rfl, by rw [e2.out]; exact hT'.out, hM.out.pre (kk5.out.trans (kV.out.mono kk5.out.size))⟩
           exact AllReady.nil
          exact AllReady.nil
         exact AllReady.nil
        exact AllReady.nil
       exact AllReady.nil
      refine AllReady.cons rfl (fun K hK => ?_) ?_
      ·
       have hK' := hK; clear hK; have hK := hK'; clear hK'
       have hq := (kV.out.block _ (blkX hE5.out)).trans hE5.out
       have q0 := blkC hq 0; have q1 := blkC hq 1; have q2 := blkC hq 2
       simp only [List.getElem?_toArray, List.getElem?_cons_zero, List.getElem?_cons_succ] at q0 q1 q2
       replace hq := Lh hq
       go_simp
       refine hK _ _ ?_
       clear hK K
       clear hq q0 q1 q2
       refine wpAny_ready (rs := [4, 6]) (by kernel_rfl) (by simp) ?_
       refine AllReady.cons rfl (fun K hK => ?_) ?_
       ·
        have hK' := hK; clear hK; have hK := hK'; clear hK'
        have hq := (kV.out.block _ hT5.out.lt).trans hT5.out.blk
        have q2 := blkC hq 2
        simp only [List.getElem?_toArray, List.getElem?_cons_zero, List.getElem?_cons_succ] at q2
        replace hq := Lh hq
        go_simp
        refine hK _ _ ?_
        clear hK K
        clear hq q2
        refine wpAny_ready (rs := [6]) (by kernel_rfl) (by simp) ?_
        refine AllReady.cons rfl (fun K hK => ?_) ?_
        ·
         have hK' := hK; clear hK; have hK := hK'; clear hK'
         have hq := (kV.out.block _ (blkX hR5.out)).trans hR5.out
         have q0 := blkC hq 0; have q1 := blkC hq 1; have q2 := blkC hq 2
         simp only [List.getElem?_toArray, List.getElem?_cons_zero, List.getElem?_cons_succ] at q0 q1 q2
         replace hq := Lh hq
         go_simp
         refine hK _ _ ?_
         clear hK K
         clear hq q0 q1 q2
         refine ta 9 ?_
         refine wpAny_ready (rs := [10]) (by kernel_rfl) (by simp) ?_
         refine AllReady.cons rfl (fun K hK => ?_) ?_
         ·
          have hK' := hK; clear hK; have hK := hK'; clear hK'
          have ks := kV.out.size
          go_simp
          refine hK _ _ ?_
          clear hK K
          have hv1 := Lh (en_one V r y key)
          have hvb := Lh (hpNew V (.cells #[.int .i64 r.1, .int .i64 r.2.1, .string r.2.2, .int .i64 y.1, .int .i64 y.2.1, .int .i64 y.2.2, .string key] 125))
          have kV1 := Lh (kV.out.alloc kV.out.size (.cells #[.int .i64 r.1, .int .i64 r.2.1, .string r.2.2, .int .i64 y.1, .int .i64 y.2.1, .int .i64 y.2.2, .string key] 125))
          clear kV; have kV := kV1; clear kV1
          have hvr : ∀ g, rowOf A = some g → g ≠ V.heap.size := fun g q => by have := (hT5.out.rowLt g q).2; omega
          clear ks
          generalize V.heap.size = vb at *
          generalize V.alloc (.cells #[.int .i64 r.1, .int .i64 r.2.1, .string r.2.2, .int .i64 y.1, .int .i64 y.2.1, .int .i64 y.2.2, .string key] 125) = V at *
          replace hvr := Lh hvr
          refine wpAny_ready (rs := [11]) (by kernel_rfl) (by simp) ?_
          refine AllReady.cons rfl (fun K hK => ?_) ?_
          ·
           have hK' := hK; clear hK; have hK := hK'; clear hK'
           have hTV := hT5.out.below kV.out
           have hcI := insert_any (i := pos P y) hTV.own rfl (Nat.le_trans hb (Nat.le_trans kk5.out.size kV.out.size)) (by have := hTV.le; have := hTV.sz; omega) hpl hv1.out hvb.out (fun q => hvr.out _ q rfl)
           replace hTV := Lh hTV
           go_simp
           go_wp2_with (go_at_call 169; refine hcI.mono ?_; rintro e' V2 ⟨v, rfl, hI⟩; obtain ⟨A', c', rfl, hD2, hT', hM⟩ := tab_stored hTV.out hI hfl.out (by omega); have f0 := blkF hD2 2; have d2' := blkC hD2 2; replace hI := Lh hI; replace hD2 := Lh hD2; replace hT' := Lh hT'; replace hM := Lh hM)
           first | (refine hK _ _ ?_; clear hK K) | skip
           refine ta 12 ?_
           refine ta 13 ?_
           refine wpAny_ready (rs := [14]) (by kernel_rfl) (by simp) ?_
           refine AllReady.cons rfl (fun K hK => ?_) ?_
           ·
            have hK' := hK; clear hK; have hK := hK'; clear hK'
            go_simp
            refine hK _ _ ?_
            clear hK K
            refine wpAny_done (by kernel_rfl) ?_ _
            go_wp2_with (fail)
            go_ret
            exact ⟨A', c', by rw [e1.out]; rfl, by rw [e2.out]; exact hT'.out, hM.out.pre (kk5.out.trans (kV.out.mono kk5.out.size))⟩
           exact AllReady.nil
          exact AllReady.nil
         exact AllReady.nil
        exact AllReady.nil
       refine AllReady.cons rfl (fun K hK => ?_) ?_
       ·
        have hK' := hK; clear hK; have hK := hK'; clear hK'
        have hq := (kV.out.block _ (blkX hR5.out)).trans hR5.out
        have q0 := blkC hq 0; have q1 := blkC hq 1; have q2 := blkC hq 2
        simp only [List.getElem?_toArray, List.getElem?_cons_zero, List.getElem?_cons_succ] at q0 q1 q2
        replace hq := Lh hq
        go_simp
        refine hK _ _ ?_
        clear hK K
        clear hq q0 q1 q2
        refine ta 9 ?_
        refine wpAny_ready (rs := [4, 10]) (by kernel_rfl) (by simp) ?_
        refine AllReady.cons rfl (fun K hK => ?_) ?_
        ·
         have hK' := hK; clear hK; have hK := hK'; clear hK'
         have hq := (kV.out.block _ hT5.out.lt).trans hT5.out.blk
         have q2 := blkC hq 2
         simp only [List.getElem?_toArray, List.getElem?_cons_zero, List.getElem?_cons_succ] at q2
         replace hq := Lh hq
         go_simp
         refine hK _ _ ?_
         clear hK K
         clear hq q2
         refine wpAny_ready (rs := [10]) (by kernel_rfl) (by simp) ?_
         refine AllReady.cons rfl (fun K hK => ?_) ?_
         ·
          have hK' := hK; clear hK; have hK := hK'; clear hK'
          have ks := kV.out.size
          go_simp
          refine hK _ _ ?_
          clear hK K
          have hv1 := Lh (en_one V r y key)
          have hvb := Lh (hpNew V (.cells #[.int .i64 r.1, .int .i64 r.2.1, .string r.2.2, .int .i64 y.1, .int .i64 y.2.1, .int .i64 y.2.2, .string key] 125))
          have kV1 := Lh (kV.out.alloc kV.out.size (.cells #[.int .i64 r.1, .int .i64 r.2.1, .string r.2.2, .int .i64 y.1, .int .i64 y.2.1, .int .i64 y.2.2, .string key] 125))
          clear kV; have kV := kV1; clear kV1
          have hvr : ∀ g, rowOf A = some g → g ≠ V.heap.size := fun g q => by have := (hT5.out.rowLt g q).2; omega
          clear ks
          generalize V.heap.size = vb at *
          generalize V.alloc (.cells #[.int .i64 r.1, .int .i64 r.2.1, .string r.2.2, .int .i64 y.1, .int .i64 y.2.1, .int .i64 y.2.2, .string key] 125) = V at *
          replace hvr := Lh hvr
          refine wpAny_ready (rs := [11]) (by kernel_rfl) (by simp) ?_
          refine AllReady.cons rfl (fun K hK => ?_) ?_
          ·
           have hK' := hK; clear hK; have hK := hK'; clear hK'
           have hTV := hT5.out.below kV.out
           have hcI := insert_any (i := pos P y) hTV.own rfl (Nat.le_trans hb (Nat.le_trans kk5.out.size kV.out.size)) (by have := hTV.le; have := hTV.sz; omega) hpl hv1.out hvb.out (fun q => hvr.out _ q rfl)
           replace hTV := Lh hTV
           go_simp
           go_wp2_with (go_at_call 169; refine hcI.mono ?_; rintro e' V2 ⟨v, rfl, hI⟩; obtain ⟨A', c', rfl, hD2, hT', hM⟩ := tab_stored hTV.out hI hfl.out (by omega); have f0 := blkF hD2 2; have d2' := blkC hD2 2; replace hI := Lh hI; replace hD2 := Lh hD2; replace hT' := Lh hT'; replace hM := Lh hM)
           first | (refine hK _ _ ?_; clear hK K) | skip
           refine ta 12 ?_
           refine ta 13 ?_
           refine wpAny_ready (rs := [14]) (by kernel_rfl) (by simp) ?_
           refine AllReady.cons rfl (fun K hK => ?_) ?_
           ·
            have hK' := hK; clear hK; have hK := hK'; clear hK'
            go_simp
            refine hK _ _ ?_
            clear hK K
            refine wpAny_done (by kernel_rfl) ?_ _
            go_wp2_with (fail)
            go_ret
            exact ⟨A', c', by rw [e1.out]; rfl, by rw [e2.out]; exact hT'.out, hM.out.pre (kk5.out.trans (kV.out.mono kk5.out.size))⟩
           exact AllReady.nil
          exact AllReady.nil
         exact AllReady.nil
        refine AllReady.cons rfl (fun K hK => ?_) ?_
        ·
         have hK' := hK; clear hK; have hK := hK'; clear hK'
         have ks := kV.out.size
         go_simp
         refine hK _ _ ?_
         clear hK K
         have hv1 := Lh (en_one V r y key)
         have hvb := Lh (hpNew V (.cells #[.int .i64 r.1, .int .i64 r.2.1, .string r.2.2, .int .i64 y.1, .int .i64 y.2.1, .int .i64 y.2.2, .string key] 125))
         have kV1 := Lh (kV.out.alloc kV.out.size (.cells #[.int .i64 r.1, .int .i64 r.2.1, .string r.2.2, .int .i64 y.1, .int .i64 y.2.1, .int .i64 y.2.2, .string key] 125))
         clear kV; have kV := kV1; clear kV1
         have hvr : ∀ g, rowOf A = some g → g ≠ V.heap.size := fun g q => by have := (hT5.out.rowLt g q).2; omega
         clear ks
         generalize V.heap.size = vb at *
         generalize V.alloc (.cells #[.int .i64 r.1, .int .i64 r.2.1, .string r.2.2, .int .i64 y.1, .int .i64 y.2.1, .int .i64 y.2.2, .string key] 125) = V at *
         replace hvr := Lh hvr
         refine wpAny_ready (rs := [4]) (by kernel_rfl) (by simp) ?_
         refine AllReady.cons rfl (fun K hK => ?_) ?_
         ·
          have hK' := hK; clear hK; have hK := hK'; clear hK'
          have hq := (kV.out.block _ hT5.out.lt).trans hT5.out.blk
          have q2 := blkC hq 2
          simp only [List.getElem?_toArray, List.getElem?_cons_zero, List.getElem?_cons_succ] at q2
          replace hq := Lh hq
          go_simp
          refine hK _ _ ?_
          clear hK K
          clear hq q2
          refine wpAny_ready (rs := [11]) (by kernel_rfl) (by simp) ?_
          refine AllReady.cons rfl (fun K hK => ?_) ?_
          ·
           have hK' := hK; clear hK; have hK := hK'; clear hK'
           have hTV := hT5.out.below kV.out
           have hcI := insert_any (i := pos P y) hTV.own rfl (Nat.le_trans hb (Nat.le_trans kk5.out.size kV.out.size)) (by have := hTV.le; have := hTV.sz; omega) hpl hv1.out hvb.out (fun q => hvr.out _ q rfl)
           replace hTV := Lh hTV
           go_simp
           go_wp2_with (go_at_call 169; refine hcI.mono ?_; rintro e' V2 ⟨v, rfl, hI⟩; obtain ⟨A', c', rfl, hD2, hT', hM⟩ := tab_stored hTV.out hI hfl.out (by omega); have f0 := blkF hD2 2; have d2' := blkC hD2 2; replace hI := Lh hI; replace hD2 := Lh hD2; replace hT' := Lh hT'; replace hM := Lh hM)
           first | (refine hK _ _ ?_; clear hK K) | skip
           refine ta 12 ?_
           refine ta 13 ?_
           refine wpAny_ready (rs := [14]) (by kernel_rfl) (by simp) ?_
           refine AllReady.cons rfl (fun K hK => ?_) ?_
           ·
            have hK' := hK; clear hK; have hK := hK'; clear hK'
            go_simp
            refine hK _ _ ?_
            clear hK K
            refine wpAny_done (by kernel_rfl) ?_ _
            go_wp2_with (fail)
            go_ret
            exact ⟨A', c', by rw [e1.out]; rfl, by rw [e2.out]; exact hT'.out, hM.out.pre (kk5.out.trans (kV.out.mono kk5.out.size))⟩
           exact AllReady.nil
          exact AllReady.nil
         exact AllReady.nil
        exact AllReady.nil
       exact AllReady.nil
      exact AllReady.nil
end Go.Proofs.YtgnjnpddehdmcaaGreatDoor
