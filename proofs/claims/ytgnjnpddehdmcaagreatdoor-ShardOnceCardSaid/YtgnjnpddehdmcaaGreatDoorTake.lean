/- The program's Take. -/
import Derived.Test.YtgnjnpddehdmcaaGreatDoorDel
import Derived.Test.YtgnjnpddehdmcaaGreatDoorGet
import Derived.Test.YtgnjnpddehdmcaaGreatDoorPut
namespace Go.Proofs.YtgnjnpddehdmcaaGreatDoor
open Go.RowKit Go.Shelf
set_option linter.unusedSimpArgs false
set_option linter.unusedVariables false
set_option linter.unusedSectionVars false
set_option maxRecDepth 10000
def Taken (base D : Nat) (size : Int) (A : Option Addr) (c : Nat) (P : List En) (g : Rg) (w : World) (e : Ending) (w' : World) : Prop :=
 ∃ B m d, e = .returned (.tuple #[.slice B m d, .int .i64 (takeC g)]) ∧ m = (takeO g P).length ∧ ES w' B m (takeO g P) ∧ (∀ k, rowOf B = some k → w.heap.size ≤ k) ∧ TabP base D size A c (takeL g P) w' ∧ Mv D A A w w'
theorem name_sz {k : ByteArray} (h : nameB k = true) : k.size ≤ 140737488355328 := by
 unfold nameB at h
 simp only [Bool.and_eq_true, decide_eq_true_eq] at h
 omega
theorem takeO_no {g : Rg} {P : List En} (h : okG g = false) : takeO g P = [] := by unfold takeO; rw [h]; rfl
theorem takeL_no {g : Rg} {P : List En} (h : okG g = false) : takeL g P = P := by unfold takeL; rw [h]; rfl
theorem takeO_ok {g : Rg} {P : List En} (h : okG g = true) : takeO g P = (P.filter fun x => inG g x.k).map En.e := by unfold takeO; rw [h]; rfl
theorem takeL_ok {g : Rg} {P : List En} (h : okG g = true) : takeL g P = P.filter (fun x => !inG g x.k) := by unfold takeL; rw [h]; rfl
theorem takeC_no {g : Rg} (h : okG g = false) : takeC g = 2 := by unfold takeC; rw [h]; rfl
theorem takeC_ok' {g : Rg} (h : okG g = true) : takeC g = 0 := by unfold takeC; rw [h]; rfl
theorem outB_new (V : World) : OutB V.heap.size V.heap.size none 0 0 [] (V.alloc (.cells #[.slice none 0 0] 117)) :=
 ⟨Nat.le_refl _, hpNew V _, ⟨rfl, .inl ⟨rfl, rfl⟩⟩, rfl⟩
theorem tab_left {base D c : Nat} {size : Int} {A : Option Addr} {P l' : List En} {V V' : World} {O R : Nat} {a b : ByteArray} {L : List Ef} {w : World} (h : TabP base D size A c P w) (hb : Below w.heap.size w V) (hS : DelS V A R O a b L V') (hl : l'.length ≤ P.length) (hown : V'.ownsRow base 125 7 (.slice A l'.length c) l'.length (flat encP l')) :
  V'.heap[D]? = some (.cells #[.bool true, .int .i64 size, .slice A P.length c] 153 (0, 0)) ∧ TabP base D size A c l' (V'.setCell ⟨D, 2, none⟩ (.slice A l'.length c)) ∧ Mv D A A w (V'.setCell ⟨D, 2, none⟩ (.slice A l'.length c)) ∧
  ∃ B m d, O ≠ D ∧ V'.heap[O]? = some (.cells #[.slice B m d] 117 (0, 0)) ∧ L.length = m ∧ ES (V'.setCell ⟨D, 2, none⟩ (.slice A l'.length c)) B m L ∧ ∀ k, rowOf B = some k → w.heap.size ≤ k := by
 have hDV := (hb.block D h.lt).trans h.blk
 have hAD : ¬ rowOf A = some D := h.rowNe h.blk (by decide)
 have hD : V'.heap[D]? = some (.cells #[.bool true, .int .i64 size, .slice A P.length c] 153 (0, 0)) := (hS.chg.block D (blkX hDV) hAD).trans hDV
 obtain ⟨B, m, d, hO⟩ := hS.out
 have hOD : O ≠ D := by have := hO.ge; have := h.lt; have := hb.size; omega
 have hcap : l'.length ≤ c := by have := h.cap; omega
 refine ⟨hD, ⟨h.ge, ?_, ?_, by have := h.le; omega, h.sz⟩, ⟨?_, .inl rfl⟩, B, m, d, hOD, hO.blk, hO.len, ?_, fun k hk => ?_⟩
 ·
  have := hpSet (i := 2) (v := .slice A l'.length c) hD
  simpa using this
 ·
  rcases hown.2 with e | ⟨g, cp, cur, e1, e2, hh, r⟩
  ·
   exact ⟨hown.1, .inl e⟩
  ·
   refine ⟨hown.1, .inr ⟨g, cp, cur, e1, e2, (hpFar ?_).trans hh, r⟩⟩
   rintro rfl
   injection e1 with e1
   exact hAD (by rw [e1]; rfl)
 ·
  exact ((Chg.of_below hb _).trans hS.chg fun _ _ q => .inr q).setCell (fun _ => .inl rfl) _
 ·
  have h2 := hO.keep (W' := V'.setCell ⟨D, 2, none⟩ (.slice A l'.length c)) (by simp [World.setCell]) fun k hk q => hpFar ?_
  ·
   exact SL.of_own encE_len h2.own h2.len
  ·
   intro hkD
   have hkD' : k = D := hkD
   subst hkD'
   rcases q with q | q
   ·
    exact hOD q.symm
   ·
    have := (own_row hO.own _ q).1
    have := h.lt; have := hb.size; omega
 ·
  have := (own_row hO.own _ hk).1
  have := hb.size
  omega
set_option maxHeartbeats 8000000 in
theorem take_any {base D c : Nat} {size : Int} {A : Option Addr} {P : List En} {w : World} (h : TabP base D size A c P w) (hP : ∀ x ∈ P, okP x = true) (a b : ByteArray) (ha : a.size ≤ 140737488355328) (hbs : b.size ≤ 140737488355328) :
  Calls Tryz.prog 79 #[.pointer (some ⟨D, 0, none⟩), .agg #[.string a, .string b]] w (Taken base D size A c P (a, b) w) := by
 have hk : ∀ x ∈ P, nameB x.k = true ∧ x.k.size ≤ 140737488355328 := fun x hx => by
  have := hP x hx
  unfold okP at this
  simp only [Bool.and_eq_true] at this
  exact ⟨this.1.2, name_sz this.1.2⟩
 have hPl : P.length ≤ 5000 := by have := h.le; have := h.sz; omega
 have kb := (Below.refl w.heap.size w).alloc (Nat.le_refl _) (.cells #[.string a, .string b] 32)
 obtain ⟨W1, hW1⟩ : ∃ W1, W1 = w.alloc (.cells #[.string a, .string b] 32) := ⟨_, rfl⟩
 have hR1 := hpNew w (.cells #[.string a, .string b] 32)
 rw [← hW1] at kb hR1
 have hT1 := h.below kb
 have hv := valid_any hT1
 have hr := rng_any a b W1 ha hbs
 have r0 := blkC hR1 0; have r1 := blkC hR1 1
 simp only [List.getElem?_toArray, List.getElem?_cons_zero, List.getElem?_cons_succ] at r0 r1
 have hDl := h.lt
 cases hok : okG (a, b) with
 | false =>
  rw [takeC_no hok] at hr
  have hfin : ∀ w', Below w.heap.size w w' → Taken base D size A c P (a, b) w (.returned (.tuple #[.slice none 0 0, .int .i64 2])) w' := fun w' hb => ⟨none, 0, 0, by rw [takeC_no hok], by rw [takeO_no hok]; rfl, by rw [takeO_no hok]; exact SL.nil _ _, (fun k hk => by cases hk), by rw [takeL_no hok]; exact h.below hb, Mv.same hb⟩
  replace h := Lh h; replace kb := Lh kb; replace hR1 := Lh hR1; replace hT1 := Lh hT1; replace hk := Lh hk; replace hok := Lh hok; replace hfin := Lh hfin; replace hP := Lh hP
  go_enter Tryz.func79, Tryz.ntmps79
  go_wp2_with (fail)
  rw [← hW1]
  replace hW1 := Lh hW1
  refine hv.mono ?_
  rintro e w2 ⟨rfl, rfl⟩
  go_wp2_with (fail)
  refine hr.mono ?_
  rintro e w2 ⟨rfl, b2⟩
  have k2 := Lh (kb.out.trans (b2.mono kb.out.size))
  clear b2 r0 r1
  go_wp2_with (fail)
  refine bodyPost_ret (results_tmp2 rfl _ _ _) rfl ?_
  exact hfin.out _ k2.out
 | true =>
  rw [takeC_ok' hok] at hr
  replace h := Lh h; replace kb := Lh kb; replace hR1 := Lh hR1; replace hT1 := Lh hT1; replace hk := Lh hk; replace hok := Lh hok; replace hP := Lh hP
  go_enter Tryz.func79, Tryz.ntmps79
  go_wp2_with (fail)
  rw [← hW1]
  replace hW1 := Lh hW1
  refine hv.mono ?_
  rintro e w2 ⟨rfl, rfl⟩
  go_wp2_with (fail)
  refine hr.mono ?_
  rintro e w2 ⟨rfl, b2⟩
  have k2 := kb.out.trans (b2.mono kb.out.size)
  have hT2 := h.out.below k2
  have hR2 := (b2.block _ (blkX hR1.out)).trans hR1.out
  have kO := (Below.refl w2.heap.size w2).alloc (Nat.le_refl _) (.cells #[.slice none 0 0] 117)
  have hS : DelS w2 A w.heap.size w2.heap.size a b [] (w2.alloc (.cells #[.slice none 0 0] 117)) := ⟨Chg.of_below kO _, (kO.block _ (blkX hR2)).trans hR2, none, 0, 0, outB_new w2⟩
  have hT3 := hT2.below kO
  have c2 := blkC hT3.blk 2
  simp only [List.getElem?_toArray, List.getElem?_cons_zero, List.getElem?_cons_succ] at c2
  obtain ⟨W3, hW3⟩ : ∃ W3, W3 = w2.alloc (.cells #[.slice none 0 0] 117) := ⟨_, rfl⟩
  rw [← hW3] at hT3 hS kO
  have hd := delete_any hS hT3.own rfl hPl (by simp) hok.out hk.out ha hbs
  have hne1 : ¬ D = w2.heap.size := by have := k2.size; omega
  replace k2 := Lh k2; replace hT2 := Lh hT2; replace hR2 := Lh hR2; replace kO := Lh kO; replace hS := Lh hS; replace hT3 := Lh hT3; replace b2 := Lh b2
  clear r0 r1
  go_wp2_with (fail)
  rw [← hW3]
  replace hW3 := Lh hW3
  refine hd.mono ?_
  rintro e w4 ⟨rfl, ho4, hS4⟩
  obtain ⟨hD4, hT5, hM5, B, m, d, hOD, hO4, hLm, hES, hBr⟩ := tab_left h.out k2.out hS4 (List.length_filter_le _ _) ho4
  have c0 := blkC hD4 2; have cf := blkF hD4; have o0 := blkC hO4 0
  simp only [List.getElem?_toArray, List.getElem?_cons_zero, List.getElem?_cons_succ] at c0 o0
  rw [List.nil_append] at hES hLm
  rw [← takeO_ok hok.out] at hES hLm
  have hlq := takeL_ok (P := P) hok.out
  have hfin : Taken base D size A c P (a, b) w (.returned (.tuple #[.slice B m d, .int .i64 0])) (w4.setCell ⟨D, 2, none⟩ (.slice A (P.filter fun x => !inG (a, b) x.k).length c)) := ⟨B, m, d, by rw [takeC_ok' hok.out], hLm.symm, hES, hBr, by rw [hlq]; exact hT5, hM5⟩
  clear hT5 hM5 hES
  generalize (P.filter fun x => !inG (a, b) x.k).length = n' at *
  replace hfin := Lh hfin; replace ho4 := Lh ho4; replace hS4 := Lh hS4; replace hLm := Lh hLm; replace hBr := Lh hBr; replace hD4 := Lh hD4; replace hO4 := Lh hO4; replace hlq := Lh hlq
  clear hd c2
  go_wp2_with (fail)
  refine bodyPost_ret (results_tmp2 rfl _ _ _) rfl ?_
  exact hfin.out
end Go.Proofs.YtgnjnpddehdmcaaGreatDoor
