/- The document's All and Put. -/
import Derived.Test.YtkdfhackpmdgfaaDoorRSort
import Derived.Test.YtkdfhackpmdgfaaDoorPut
namespace Go.Proofs.YtkdfhackpmdgfaaDoor
open Go.RowKit Go.Shelf
set_option linter.unusedSimpArgs false
set_option linter.unusedVariables false
set_option linter.unusedSectionVars false
set_option maxRecDepth 10000
attribute [local go_sem ↓] hideAppend
theorem rall_any {base D c : Nat} {size : Int} {A : Option Addr} {P : List En} {w : World} (h : TabR base D size A c P w) : Calls Tryd.prog 42 #[.pointer (some ⟨D, 0, none⟩)] w fun e w' => ∃ A' c', e = .returned (.slice A' P.length c') ∧ OwnE w A' P.length c' (srtE (P.map En.e)) w' := by
  have t1 := blkC h.blk 1
  simp only [List.getElem?_toArray, List.getElem?_cons_zero, List.getElem?_cons_succ] at t1
  have hs := sorted_any (cB := c) w h.rs (by have := h.le; have := h.sz; omega)
  replace h := Lib.hid h
  go_enter Tryd.func42, Tryd.ntmps42
  go_wp2_with (fail)
  refine hs.mono ?_
  rintro e w2 ⟨A', c', rfl, hO⟩
  replace hO := Lib.hid hO
  clear hs
  go_wp2_with (fail)
  go_ret
  exact ⟨A', c', rfl, hO.out⟩
theorem rtab_stored {base D c : Nat} {size : Int} {A A' : Option Addr} {c' : Nat} {P : List En} {x : En} {V V' : World} (h : TabR base D size A c P V) (hown : V'.ownsRow base 94 7 (.slice A' (P.length + 1) c') (P.length + 1) (flat encR (P ++ [x]))) (hgr : V.grownBy V' (rowOf A)) (hat : rowOf A' = rowOf A ∨ ∃ g, rowOf A' = some g ∧ V.heap.size ≤ g) (hlt : (P.length : Int) < size) :
    V'.heap[D]? = some (.cells #[.int .i64 size, .slice A P.length c] 85 (0, 0)) ∧ TabR base D size A' c' (P ++ [x]) (V'.setCell ⟨D, 1, none⟩ (.slice A' (P.length + 1) c')) ∧ Mv D A A' V (V'.setCell ⟨D, 1, none⟩ (.slice A' (P.length + 1) c')) := by
  have hD : V'.heap[D]? = some (.cells #[.int .i64 size, .slice A P.length c] 85 (0, 0)) := (hgr.block D h.lt fun e => h.rowNe h.blk (by decide) e.symm).trans h.blk
  have hl : (P ++ [x]).length = P.length + 1 := by simp
  refine ⟨hD, ⟨h.ge, ?_, ?_, by rw [hl]; omega, h.sz⟩, ⟨?_, hat⟩⟩
  · have := hpSet (i := 1) (v := .slice A' (P.length + 1) c') hD
    rw [hl]
    simpa using this
  · rw [hl]
    rcases hown.2 with e | ⟨g, cp, cur, e1, e2, hh, r⟩
    · exact ⟨by rw [hown.1], .inl e⟩
    · refine ⟨by rw [hown.1], .inr ⟨g, cp, cur, e1, e2, (hpFar ?_).trans hh, r⟩⟩
      rintro rfl
      rw [hD] at hh
      injection hh with hh
      injection hh with _ hh
      exact absurd hh (by decide)
  · exact Chg.setCell (Chg.of_grown (S := fun k => k = D ∨ rowOf A = some k) hgr fun k e => .inr e) (fun _ => .inl rfl) _
theorem enr_one (V : World) (x : En) : RS (V.alloc (.cells #[.int .i64 x.e.1, .int .i64 x.e.2.1, .int .i64 x.e.2.2, .string x.k, .int .i64 x.r.1, .int .i64 x.r.2.1, .string x.r.2.2] 94)) (some ⟨V.heap.size, 0, none⟩) 1 [x] := by
  refine ⟨rfl, fun _ => ⟨_, _, rfl, by simp, fun i z hz j u hu => ?_⟩⟩
  have hi : i = 0 := by have := (List.getElem?_eq_some_iff.1 hz).1; simp at this; exact this
  subst hi
  simp only [List.getElem?_cons_zero, Option.some.injEq] at hz
  subst hz
  have := blkC (hpNew V (.cells #[.int .i64 x.e.1, .int .i64 x.e.2.1, .int .i64 x.e.2.2, .string x.k, .int .i64 x.r.1, .int .i64 x.r.2.1, .string x.r.2.2] 94)) (0 + 0 * 7 + j)
  rw [this]
  simpa [encR] using hu
set_option maxHeartbeats 8000000 in
theorem rput_e {base D c : Nat} {size : Int} {A : Option Addr} {P : List En} {w : World} (h : TabR base D size A c P w) (hb : base ≤ w.heap.size) (y : Ef) (key : ByteArray) (r : Rp) (hkey : key.size ≤ 140737488355328) (h1 : okE y = false) :
    Calls Tryd.prog 19 #[.pointer (some ⟨D, 0, none⟩), .agg #[.int .i64 y.1, .int .i64 y.2.1, .int .i64 y.2.2], .string key, .agg #[.int .i64 r.1, .int .i64 r.2.1, .string r.2.2]] w fun e w' => ∃ A' c', e = .returned (.int .i64 (2)) ∧ TabR base D size A' c' (P) w' ∧ Mv D A A' w w' := by
  have hc : chkE y = 2 := by unfold chkE; rw [h1]; rfl
  have kb := ((Below.refl w.heap.size w).alloc (Nat.le_refl _) (.cells #[.int .i64 y.1, .int .i64 y.2.1, .int .i64 y.2.2] 23)).alloc (by simp) (.cells #[.int .i64 r.1, .int .i64 r.2.1, .string r.2.2] 43)
  have hT := h.below kb
  have hce := fun W => rcheckE_any y.1 y.2.1 y.2.2 W
  have hnm := fun W => rname_any key hkey W
  have hcr := fun W => checkR_any r.1 r.2.1 r.2.2 W
  rw [show ((y.1, y.2.1, y.2.2) : Ef) = y from rfl] at hce
  rw [show ((r.1, r.2.1, r.2.2) : Rp) = r from rfl] at hcr
  rw [hc] at hce
  have hz0 := hpNew (w.alloc (.cells #[.int .i64 y.1, .int .i64 y.2.1, .int .i64 y.2.2] 23)) (.cells #[.int .i64 r.1, .int .i64 r.2.1, .string r.2.2] 43)
  rw [show (w.alloc (.cells #[.int .i64 y.1, .int .i64 y.2.1, .int .i64 y.2.2] 23)).heap.size = w.heap.size + 1 from by simp] at hz0
  have he0 : ((w.alloc (.cells #[.int .i64 y.1, .int .i64 y.2.1, .int .i64 y.2.2] 23)).alloc (.cells #[.int .i64 r.1, .int .i64 r.2.1, .string r.2.2] 43)).heap[w.heap.size]? = some (.cells #[.int .i64 y.1, .int .i64 y.2.1, .int .i64 y.2.2] 23 (0, 0)) := by rw [hpOld _ (by simp)]; exact hpNew w _
  obtain ⟨W1, hW1⟩ : ∃ W1, W1 = (w.alloc (.cells #[.int .i64 y.1, .int .i64 y.2.1, .int .i64 y.2.2] 23)).alloc (.cells #[.int .i64 r.1, .int .i64 r.2.1, .string r.2.2] 43) := ⟨_, rfl⟩
  rw [← hW1] at kb hT hz0 he0
  have hTl := h.lt
  replace kb := Lib.hid kb; replace hT := Lib.hid hT; replace hz0 := Lib.hid hz0; replace he0 := Lib.hid he0; replace h := Lib.hid h; replace hTl := Lib.hid hTl
  go_enter Tryd.func19, Tryd.ntmps19
  go_wp2_with (fail)
  rw [← hW1]
  replace hW1 := Lib.hid hW1
  refine (hce _).mono ?_
  rintro e w2 ⟨rfl, b2⟩
  have T2 := Lib.hid (hT.out.below b2)
  have K2 := Lib.hid (kb.out.trans (b2.mono kb.out.size))
  have e2 := (b2.block _ (blkX he0.out)).trans he0.out
  have z2 := (b2.block _ (blkX hz0.out)).trans hz0.out
  clear hce b2 hT kb
  clear e2 z2
  go_wp2_with (fail)
  go_ret
  exact ⟨A, c, rfl, T2.out, Mv.same K2.out⟩
set_option maxHeartbeats 8000000 in
theorem rput_n {base D c : Nat} {size : Int} {A : Option Addr} {P : List En} {w : World} (h : TabR base D size A c P w) (hb : base ≤ w.heap.size) (y : Ef) (key : ByteArray) (r : Rp) (hkey : key.size ≤ 140737488355328) (h1 : okE y = true) (h2 : nameB key = false) :
    Calls Tryd.prog 19 #[.pointer (some ⟨D, 0, none⟩), .agg #[.int .i64 y.1, .int .i64 y.2.1, .int .i64 y.2.2], .string key, .agg #[.int .i64 r.1, .int .i64 r.2.1, .string r.2.2]] w fun e w' => ∃ A' c', e = .returned (.int .i64 (2)) ∧ TabR base D size A' c' (P) w' ∧ Mv D A A' w w' := by
  have hc : chkE y = 0 := by unfold chkE; rw [h1]; rfl
  have kb := ((Below.refl w.heap.size w).alloc (Nat.le_refl _) (.cells #[.int .i64 y.1, .int .i64 y.2.1, .int .i64 y.2.2] 23)).alloc (by simp) (.cells #[.int .i64 r.1, .int .i64 r.2.1, .string r.2.2] 43)
  have hT := h.below kb
  have hce := fun W => rcheckE_any y.1 y.2.1 y.2.2 W
  have hnm := fun W => rname_any key hkey W
  have hcr := fun W => checkR_any r.1 r.2.1 r.2.2 W
  rw [show ((y.1, y.2.1, y.2.2) : Ef) = y from rfl] at hce
  rw [show ((r.1, r.2.1, r.2.2) : Rp) = r from rfl] at hcr
  rw [hc] at hce
  rw [h2] at hnm
  have hz0 := hpNew (w.alloc (.cells #[.int .i64 y.1, .int .i64 y.2.1, .int .i64 y.2.2] 23)) (.cells #[.int .i64 r.1, .int .i64 r.2.1, .string r.2.2] 43)
  rw [show (w.alloc (.cells #[.int .i64 y.1, .int .i64 y.2.1, .int .i64 y.2.2] 23)).heap.size = w.heap.size + 1 from by simp] at hz0
  have he0 : ((w.alloc (.cells #[.int .i64 y.1, .int .i64 y.2.1, .int .i64 y.2.2] 23)).alloc (.cells #[.int .i64 r.1, .int .i64 r.2.1, .string r.2.2] 43)).heap[w.heap.size]? = some (.cells #[.int .i64 y.1, .int .i64 y.2.1, .int .i64 y.2.2] 23 (0, 0)) := by rw [hpOld _ (by simp)]; exact hpNew w _
  obtain ⟨W1, hW1⟩ : ∃ W1, W1 = (w.alloc (.cells #[.int .i64 y.1, .int .i64 y.2.1, .int .i64 y.2.2] 23)).alloc (.cells #[.int .i64 r.1, .int .i64 r.2.1, .string r.2.2] 43) := ⟨_, rfl⟩
  rw [← hW1] at kb hT hz0 he0
  have hTl := h.lt
  replace kb := Lib.hid kb; replace hT := Lib.hid hT; replace hz0 := Lib.hid hz0; replace he0 := Lib.hid he0; replace h := Lib.hid h; replace hTl := Lib.hid hTl
  go_enter Tryd.func19, Tryd.ntmps19
  go_wp2_with (fail)
  rw [← hW1]
  replace hW1 := Lib.hid hW1
  refine (hce _).mono ?_
  rintro e w2 ⟨rfl, b2⟩
  have T2 := Lib.hid (hT.out.below b2)
  have K2 := Lib.hid (kb.out.trans (b2.mono kb.out.size))
  have e2 := (b2.block _ (blkX he0.out)).trans he0.out
  have z2 := (b2.block _ (blkX hz0.out)).trans hz0.out
  clear hce b2 hT kb
  have x0 := blkC e2 0; have x1 := blkC e2 1; have x2 := blkC e2 2; have q0 := blkC z2 0; have q1 := blkC z2 1; have q2 := blkC z2 2
  simp only [List.getElem?_toArray, List.getElem?_cons_zero, List.getElem?_cons_succ] at x0 x1 x2 q0 q1 q2
  replace e2 := Lib.hid e2; replace z2 := Lib.hid z2
  go_wp2_with (fail)
  refine (hnm _).mono ?_
  rintro e w2 ⟨rfl, rfl⟩
  clear hnm x0 x1 x2 q0 q1 q2
  go_wp2_with (fail)
  go_ret
  exact ⟨A, c, rfl, T2.out, Mv.same K2.out⟩
set_option maxHeartbeats 8000000 in
theorem rput_r {base D c : Nat} {size : Int} {A : Option Addr} {P : List En} {w : World} (h : TabR base D size A c P w) (hb : base ≤ w.heap.size) (y : Ef) (key : ByteArray) (r : Rp) (hkey : key.size ≤ 140737488355328) (h1 : okE y = true) (h2 : nameB key = true) (h3 : okR r = false) :
    Calls Tryd.prog 19 #[.pointer (some ⟨D, 0, none⟩), .agg #[.int .i64 y.1, .int .i64 y.2.1, .int .i64 y.2.2], .string key, .agg #[.int .i64 r.1, .int .i64 r.2.1, .string r.2.2]] w fun e w' => ∃ A' c', e = .returned (.int .i64 (2)) ∧ TabR base D size A' c' (P) w' ∧ Mv D A A' w w' := by
  have hc : chkE y = 0 := by unfold chkE; rw [h1]; rfl
  have kb := ((Below.refl w.heap.size w).alloc (Nat.le_refl _) (.cells #[.int .i64 y.1, .int .i64 y.2.1, .int .i64 y.2.2] 23)).alloc (by simp) (.cells #[.int .i64 r.1, .int .i64 r.2.1, .string r.2.2] 43)
  have hT := h.below kb
  have hce := fun W => rcheckE_any y.1 y.2.1 y.2.2 W
  have hnm := fun W => rname_any key hkey W
  have hcr := fun W => checkR_any r.1 r.2.1 r.2.2 W
  rw [show ((y.1, y.2.1, y.2.2) : Ef) = y from rfl] at hce
  rw [show ((r.1, r.2.1, r.2.2) : Rp) = r from rfl] at hcr
  rw [hc] at hce
  have hc3 : chkR r = 2 := by unfold chkR; rw [h3]; rfl
  rw [hc3] at hcr
  rw [h2] at hnm
  have hz0 := hpNew (w.alloc (.cells #[.int .i64 y.1, .int .i64 y.2.1, .int .i64 y.2.2] 23)) (.cells #[.int .i64 r.1, .int .i64 r.2.1, .string r.2.2] 43)
  rw [show (w.alloc (.cells #[.int .i64 y.1, .int .i64 y.2.1, .int .i64 y.2.2] 23)).heap.size = w.heap.size + 1 from by simp] at hz0
  have he0 : ((w.alloc (.cells #[.int .i64 y.1, .int .i64 y.2.1, .int .i64 y.2.2] 23)).alloc (.cells #[.int .i64 r.1, .int .i64 r.2.1, .string r.2.2] 43)).heap[w.heap.size]? = some (.cells #[.int .i64 y.1, .int .i64 y.2.1, .int .i64 y.2.2] 23 (0, 0)) := by rw [hpOld _ (by simp)]; exact hpNew w _
  obtain ⟨W1, hW1⟩ : ∃ W1, W1 = (w.alloc (.cells #[.int .i64 y.1, .int .i64 y.2.1, .int .i64 y.2.2] 23)).alloc (.cells #[.int .i64 r.1, .int .i64 r.2.1, .string r.2.2] 43) := ⟨_, rfl⟩
  rw [← hW1] at kb hT hz0 he0
  have hTl := h.lt
  replace kb := Lib.hid kb; replace hT := Lib.hid hT; replace hz0 := Lib.hid hz0; replace he0 := Lib.hid he0; replace h := Lib.hid h; replace hTl := Lib.hid hTl
  go_enter Tryd.func19, Tryd.ntmps19
  go_wp2_with (fail)
  rw [← hW1]
  replace hW1 := Lib.hid hW1
  refine (hce _).mono ?_
  rintro e w2 ⟨rfl, b2⟩
  have T2 := Lib.hid (hT.out.below b2)
  have K2 := Lib.hid (kb.out.trans (b2.mono kb.out.size))
  have e2 := (b2.block _ (blkX he0.out)).trans he0.out
  have z2 := (b2.block _ (blkX hz0.out)).trans hz0.out
  clear hce b2 hT kb
  have x0 := blkC e2 0; have x1 := blkC e2 1; have x2 := blkC e2 2; have q0 := blkC z2 0; have q1 := blkC z2 1; have q2 := blkC z2 2
  simp only [List.getElem?_toArray, List.getElem?_cons_zero, List.getElem?_cons_succ] at x0 x1 x2 q0 q1 q2
  replace e2 := Lib.hid e2; replace z2 := Lib.hid z2
  go_wp2_with (fail)
  refine (hnm _).mono ?_
  rintro e w2 ⟨rfl, rfl⟩
  clear hnm
  go_wp2_with (fail)
  refine (hcr _).mono ?_
  rintro e w3 ⟨rfl, b3⟩
  have T3 := T2.out.below b3
  have K3 := Lib.hid (K2.out.trans (b3.mono K2.out.size))
  have e3 := (b3.block _ (blkX e2.out)).trans e2.out
  have z3 := (b3.block _ (blkX z2.out)).trans z2.out
  clear hcr b3 T2 K2 e2 z2 x0 x1 x2 q0 q1 q2
  clear e3 z3
  replace T3 := Lib.hid T3
  go_wp2_with (fail)
  go_ret
  exact ⟨A, c, rfl, T3.out, Mv.same K3.out⟩
set_option maxHeartbeats 8000000 in
theorem rput_h {base D c : Nat} {size : Int} {A : Option Addr} {P : List En} {w : World} (h : TabR base D size A c P w) (hb : base ≤ w.heap.size) (y : Ef) (key : ByteArray) (r : Rp) (hkey : key.size ≤ 140737488355328) (h1 : okE y = true) (h2 : nameB key = true) (h3 : okR r = true) (h4 : (look P y).isSome = true) :
    Calls Tryd.prog 19 #[.pointer (some ⟨D, 0, none⟩), .agg #[.int .i64 y.1, .int .i64 y.2.1, .int .i64 y.2.2], .string key, .agg #[.int .i64 r.1, .int .i64 r.2.1, .string r.2.2]] w fun e w' => ∃ A' c', e = .returned (.int .i64 (6)) ∧ TabR base D size A' c' (P) w' ∧ Mv D A A' w w' := by
  have hfi : 0 ≤ findI P y := by
    rcases findI_look P y with ⟨_, hl⟩ | ⟨i, x, hi, _, _⟩
    · rw [hl] at h4; cases h4
    · omega
  have hc : chkE y = 0 := by unfold chkE; rw [h1]; rfl
  have kb := ((Below.refl w.heap.size w).alloc (Nat.le_refl _) (.cells #[.int .i64 y.1, .int .i64 y.2.1, .int .i64 y.2.2] 23)).alloc (by simp) (.cells #[.int .i64 r.1, .int .i64 r.2.1, .string r.2.2] 43)
  have hT := h.below kb
  have hce := fun W => rcheckE_any y.1 y.2.1 y.2.2 W
  have hnm := fun W => rname_any key hkey W
  have hcr := fun W => checkR_any r.1 r.2.1 r.2.2 W
  rw [show ((y.1, y.2.1, y.2.2) : Ef) = y from rfl] at hce
  rw [show ((r.1, r.2.1, r.2.2) : Rp) = r from rfl] at hcr
  rw [hc] at hce
  have hc3 : chkR r = 0 := by unfold chkR; rw [h3]; rfl
  rw [hc3] at hcr
  rw [h2] at hnm
  have hz0 := hpNew (w.alloc (.cells #[.int .i64 y.1, .int .i64 y.2.1, .int .i64 y.2.2] 23)) (.cells #[.int .i64 r.1, .int .i64 r.2.1, .string r.2.2] 43)
  rw [show (w.alloc (.cells #[.int .i64 y.1, .int .i64 y.2.1, .int .i64 y.2.2] 23)).heap.size = w.heap.size + 1 from by simp] at hz0
  have he0 : ((w.alloc (.cells #[.int .i64 y.1, .int .i64 y.2.1, .int .i64 y.2.2] 23)).alloc (.cells #[.int .i64 r.1, .int .i64 r.2.1, .string r.2.2] 43)).heap[w.heap.size]? = some (.cells #[.int .i64 y.1, .int .i64 y.2.1, .int .i64 y.2.2] 23 (0, 0)) := by rw [hpOld _ (by simp)]; exact hpNew w _
  obtain ⟨W1, hW1⟩ : ∃ W1, W1 = (w.alloc (.cells #[.int .i64 y.1, .int .i64 y.2.1, .int .i64 y.2.2] 23)).alloc (.cells #[.int .i64 r.1, .int .i64 r.2.1, .string r.2.2] 43) := ⟨_, rfl⟩
  rw [← hW1] at kb hT hz0 he0
  have hTl := h.lt
  replace kb := Lib.hid kb; replace hT := Lib.hid hT; replace hz0 := Lib.hid hz0; replace he0 := Lib.hid he0; replace h := Lib.hid h; replace hTl := Lib.hid hTl
  go_enter Tryd.func19, Tryd.ntmps19
  go_wp2_with (fail)
  rw [← hW1]
  replace hW1 := Lib.hid hW1
  refine (hce _).mono ?_
  rintro e w2 ⟨rfl, b2⟩
  have T2 := Lib.hid (hT.out.below b2)
  have K2 := Lib.hid (kb.out.trans (b2.mono kb.out.size))
  have e2 := (b2.block _ (blkX he0.out)).trans he0.out
  have z2 := (b2.block _ (blkX hz0.out)).trans hz0.out
  clear hce b2 hT kb
  have x0 := blkC e2 0; have x1 := blkC e2 1; have x2 := blkC e2 2; have q0 := blkC z2 0; have q1 := blkC z2 1; have q2 := blkC z2 2
  simp only [List.getElem?_toArray, List.getElem?_cons_zero, List.getElem?_cons_succ] at x0 x1 x2 q0 q1 q2
  replace e2 := Lib.hid e2; replace z2 := Lib.hid z2
  go_wp2_with (fail)
  refine (hnm _).mono ?_
  rintro e w2 ⟨rfl, rfl⟩
  clear hnm
  go_wp2_with (fail)
  refine (hcr _).mono ?_
  rintro e w3 ⟨rfl, b3⟩
  have T3 := T2.out.below b3
  have K3 := Lib.hid (K2.out.trans (b3.mono K2.out.size))
  have e3 := (b3.block _ (blkX e2.out)).trans e2.out
  have z3 := (b3.block _ (blkX z2.out)).trans z2.out
  clear hcr b3 T2 K2 e2 z2 x0 x1 x2 q0 q1 q2
  have hf := rfind_any T3 y
  have x0 := blkC e3 0; have x1 := blkC e3 1; have x2 := blkC e3 2
  simp only [List.getElem?_toArray, List.getElem?_cons_zero, List.getElem?_cons_succ] at x0 x1 x2
  replace e3 := Lib.hid e3; replace z3 := Lib.hid z3; replace T3 := Lib.hid T3
  go_wp2_with (fail)
  refine hf.mono ?_
  rintro e w4 ⟨rfl, b4⟩
  have T4 := T3.out.below b4
  have K4 := Lib.hid (K3.out.trans (b4.mono K3.out.size))
  have e4 := (b4.block _ (blkX e3.out)).trans e3.out
  have z4 := (b4.block _ (blkX z3.out)).trans z3.out
  clear hf b4 T3 K3 e3 z3 x0 x1 x2
  clear e4 z4
  replace T4 := Lib.hid T4
  go_wp2_with (fail)
  go_ret
  exact ⟨A, c, rfl, T4.out, Mv.same K4.out⟩
set_option maxHeartbeats 8000000 in
theorem rput_f {base D c : Nat} {size : Int} {A : Option Addr} {P : List En} {w : World} (h : TabR base D size A c P w) (hb : base ≤ w.heap.size) (y : Ef) (key : ByteArray) (r : Rp) (hkey : key.size ≤ 140737488355328) (h1 : okE y = true) (h2 : nameB key = true) (h3 : okR r = true) (h4 : (look P y).isSome = false) (h5 : size ≤ (P.length : Int)) :
    Calls Tryd.prog 19 #[.pointer (some ⟨D, 0, none⟩), .agg #[.int .i64 y.1, .int .i64 y.2.1, .int .i64 y.2.2], .string key, .agg #[.int .i64 r.1, .int .i64 r.2.1, .string r.2.2]] w fun e w' => ∃ A' c', e = .returned (.int .i64 (4)) ∧ TabR base D size A' c' (P) w' ∧ Mv D A A' w w' := by
  have hfi : ¬ 0 ≤ findI P y := by
    rcases findI_look P y with ⟨hi, _⟩ | ⟨i, x, _, _, hl⟩
    · omega
    · rw [hl] at h4; cases h4
  have hc : chkE y = 0 := by unfold chkE; rw [h1]; rfl
  have kb := ((Below.refl w.heap.size w).alloc (Nat.le_refl _) (.cells #[.int .i64 y.1, .int .i64 y.2.1, .int .i64 y.2.2] 23)).alloc (by simp) (.cells #[.int .i64 r.1, .int .i64 r.2.1, .string r.2.2] 43)
  have hT := h.below kb
  have hce := fun W => rcheckE_any y.1 y.2.1 y.2.2 W
  have hnm := fun W => rname_any key hkey W
  have hcr := fun W => checkR_any r.1 r.2.1 r.2.2 W
  rw [show ((y.1, y.2.1, y.2.2) : Ef) = y from rfl] at hce
  rw [show ((r.1, r.2.1, r.2.2) : Rp) = r from rfl] at hcr
  rw [hc] at hce
  have hc3 : chkR r = 0 := by unfold chkR; rw [h3]; rfl
  rw [hc3] at hcr
  rw [h2] at hnm
  have hz0 := hpNew (w.alloc (.cells #[.int .i64 y.1, .int .i64 y.2.1, .int .i64 y.2.2] 23)) (.cells #[.int .i64 r.1, .int .i64 r.2.1, .string r.2.2] 43)
  rw [show (w.alloc (.cells #[.int .i64 y.1, .int .i64 y.2.1, .int .i64 y.2.2] 23)).heap.size = w.heap.size + 1 from by simp] at hz0
  have he0 : ((w.alloc (.cells #[.int .i64 y.1, .int .i64 y.2.1, .int .i64 y.2.2] 23)).alloc (.cells #[.int .i64 r.1, .int .i64 r.2.1, .string r.2.2] 43)).heap[w.heap.size]? = some (.cells #[.int .i64 y.1, .int .i64 y.2.1, .int .i64 y.2.2] 23 (0, 0)) := by rw [hpOld _ (by simp)]; exact hpNew w _
  obtain ⟨W1, hW1⟩ : ∃ W1, W1 = (w.alloc (.cells #[.int .i64 y.1, .int .i64 y.2.1, .int .i64 y.2.2] 23)).alloc (.cells #[.int .i64 r.1, .int .i64 r.2.1, .string r.2.2] 43) := ⟨_, rfl⟩
  rw [← hW1] at kb hT hz0 he0
  have hTl := h.lt
  replace kb := Lib.hid kb; replace hT := Lib.hid hT; replace hz0 := Lib.hid hz0; replace he0 := Lib.hid he0; replace h := Lib.hid h; replace hTl := Lib.hid hTl
  go_enter Tryd.func19, Tryd.ntmps19
  go_wp2_with (fail)
  rw [← hW1]
  replace hW1 := Lib.hid hW1
  refine (hce _).mono ?_
  rintro e w2 ⟨rfl, b2⟩
  have T2 := Lib.hid (hT.out.below b2)
  have K2 := Lib.hid (kb.out.trans (b2.mono kb.out.size))
  have e2 := (b2.block _ (blkX he0.out)).trans he0.out
  have z2 := (b2.block _ (blkX hz0.out)).trans hz0.out
  clear hce b2 hT kb
  have x0 := blkC e2 0; have x1 := blkC e2 1; have x2 := blkC e2 2; have q0 := blkC z2 0; have q1 := blkC z2 1; have q2 := blkC z2 2
  simp only [List.getElem?_toArray, List.getElem?_cons_zero, List.getElem?_cons_succ] at x0 x1 x2 q0 q1 q2
  replace e2 := Lib.hid e2; replace z2 := Lib.hid z2
  go_wp2_with (fail)
  refine (hnm _).mono ?_
  rintro e w2 ⟨rfl, rfl⟩
  clear hnm
  go_wp2_with (fail)
  refine (hcr _).mono ?_
  rintro e w3 ⟨rfl, b3⟩
  have T3 := T2.out.below b3
  have K3 := Lib.hid (K2.out.trans (b3.mono K2.out.size))
  have e3 := (b3.block _ (blkX e2.out)).trans e2.out
  have z3 := (b3.block _ (blkX z2.out)).trans z2.out
  clear hcr b3 T2 K2 e2 z2 x0 x1 x2 q0 q1 q2
  have hf := rfind_any T3 y
  have x0 := blkC e3 0; have x1 := blkC e3 1; have x2 := blkC e3 2
  simp only [List.getElem?_toArray, List.getElem?_cons_zero, List.getElem?_cons_succ] at x0 x1 x2
  replace e3 := Lib.hid e3; replace z3 := Lib.hid z3; replace T3 := Lib.hid T3
  go_wp2_with (fail)
  refine hf.mono ?_
  rintro e w4 ⟨rfl, b4⟩
  have T4 := T3.out.below b4
  have K4 := Lib.hid (K3.out.trans (b4.mono K3.out.size))
  have e4 := (b4.block _ (blkX e3.out)).trans e3.out
  have z4 := (b4.block _ (blkX z3.out)).trans z3.out
  clear hf b4 T3 K3 e3 z3 x0 x1 x2
  have d0 := blkC T4.blk 0; have d1 := blkC T4.blk 1
  simp only [List.getElem?_toArray, List.getElem?_cons_zero, List.getElem?_cons_succ] at d0 d1
  have hsz := h.out.sz; have hle := h.out.le
  have i0 : (0 : Int) ≤ P.length := by omega
  clear e4 z4
  replace T4 := Lib.hid T4
  go_wp2_with (fail)
  go_quiet (fail)
  go_wp2_with (fail)
  go_ret
  exact ⟨A, c, rfl, T4.out.below (below_drewN (Below.refl _ _) _), Mv.same (below_drewN K4.out _)⟩
set_option maxHeartbeats 8000000 in
theorem rput_y {base D c : Nat} {size : Int} {A : Option Addr} {P : List En} {w : World} (h : TabR base D size A c P w) (hb : base ≤ w.heap.size) (y : Ef) (key : ByteArray) (r : Rp) (hkey : key.size ≤ 140737488355328) (h1 : okE y = true) (h2 : nameB key = true) (h3 : okR r = true) (h4 : (look P y).isSome = false) (h5 : (P.length : Int) < size) :
    Calls Tryd.prog 19 #[.pointer (some ⟨D, 0, none⟩), .agg #[.int .i64 y.1, .int .i64 y.2.1, .int .i64 y.2.2], .string key, .agg #[.int .i64 r.1, .int .i64 r.2.1, .string r.2.2]] w fun e w' => ∃ A' c', e = .returned (.int .i64 (0)) ∧ TabR base D size A' c' (P ++ [⟨y, key, r⟩]) w' ∧ Mv D A A' w w' := by
  have hfi : ¬ 0 ≤ findI P y := by
    rcases findI_look P y with ⟨hi, _⟩ | ⟨i, x, _, _, hl⟩
    · omega
    · rw [hl] at h4; cases h4
  have h6 : ¬ size ≤ (P.length : Int) := by omega
  have hc : chkE y = 0 := by unfold chkE; rw [h1]; rfl
  have kb := ((Below.refl w.heap.size w).alloc (Nat.le_refl _) (.cells #[.int .i64 y.1, .int .i64 y.2.1, .int .i64 y.2.2] 23)).alloc (by simp) (.cells #[.int .i64 r.1, .int .i64 r.2.1, .string r.2.2] 43)
  have hT := h.below kb
  have hce := fun W => rcheckE_any y.1 y.2.1 y.2.2 W
  have hnm := fun W => rname_any key hkey W
  have hcr := fun W => checkR_any r.1 r.2.1 r.2.2 W
  rw [show ((y.1, y.2.1, y.2.2) : Ef) = y from rfl] at hce
  rw [show ((r.1, r.2.1, r.2.2) : Rp) = r from rfl] at hcr
  rw [hc] at hce
  have hc3 : chkR r = 0 := by unfold chkR; rw [h3]; rfl
  rw [hc3] at hcr
  rw [h2] at hnm
  have hz0 := hpNew (w.alloc (.cells #[.int .i64 y.1, .int .i64 y.2.1, .int .i64 y.2.2] 23)) (.cells #[.int .i64 r.1, .int .i64 r.2.1, .string r.2.2] 43)
  rw [show (w.alloc (.cells #[.int .i64 y.1, .int .i64 y.2.1, .int .i64 y.2.2] 23)).heap.size = w.heap.size + 1 from by simp] at hz0
  have he0 : ((w.alloc (.cells #[.int .i64 y.1, .int .i64 y.2.1, .int .i64 y.2.2] 23)).alloc (.cells #[.int .i64 r.1, .int .i64 r.2.1, .string r.2.2] 43)).heap[w.heap.size]? = some (.cells #[.int .i64 y.1, .int .i64 y.2.1, .int .i64 y.2.2] 23 (0, 0)) := by rw [hpOld _ (by simp)]; exact hpNew w _
  obtain ⟨W1, hW1⟩ : ∃ W1, W1 = (w.alloc (.cells #[.int .i64 y.1, .int .i64 y.2.1, .int .i64 y.2.2] 23)).alloc (.cells #[.int .i64 r.1, .int .i64 r.2.1, .string r.2.2] 43) := ⟨_, rfl⟩
  rw [← hW1] at kb hT hz0 he0
  have hTl := h.lt
  replace kb := Lib.hid kb; replace hT := Lib.hid hT; replace hz0 := Lib.hid hz0; replace he0 := Lib.hid he0; replace h := Lib.hid h; replace hTl := Lib.hid hTl
  go_enter Tryd.func19, Tryd.ntmps19
  go_wp2_with (fail)
  rw [← hW1]
  replace hW1 := Lib.hid hW1
  refine (hce _).mono ?_
  rintro e w2 ⟨rfl, b2⟩
  have T2 := Lib.hid (hT.out.below b2)
  have K2 := Lib.hid (kb.out.trans (b2.mono kb.out.size))
  have e2 := (b2.block _ (blkX he0.out)).trans he0.out
  have z2 := (b2.block _ (blkX hz0.out)).trans hz0.out
  clear hce b2 hT kb
  have x0 := blkC e2 0; have x1 := blkC e2 1; have x2 := blkC e2 2; have q0 := blkC z2 0; have q1 := blkC z2 1; have q2 := blkC z2 2
  simp only [List.getElem?_toArray, List.getElem?_cons_zero, List.getElem?_cons_succ] at x0 x1 x2 q0 q1 q2
  replace e2 := Lib.hid e2; replace z2 := Lib.hid z2
  go_wp2_with (fail)
  refine (hnm _).mono ?_
  rintro e w2 ⟨rfl, rfl⟩
  clear hnm
  go_wp2_with (fail)
  refine (hcr _).mono ?_
  rintro e w3 ⟨rfl, b3⟩
  have T3 := T2.out.below b3
  have K3 := Lib.hid (K2.out.trans (b3.mono K2.out.size))
  have e3 := (b3.block _ (blkX e2.out)).trans e2.out
  have z3 := (b3.block _ (blkX z2.out)).trans z2.out
  clear hcr b3 T2 K2 e2 z2 x0 x1 x2 q0 q1 q2
  have hf := rfind_any T3 y
  have x0 := blkC e3 0; have x1 := blkC e3 1; have x2 := blkC e3 2
  simp only [List.getElem?_toArray, List.getElem?_cons_zero, List.getElem?_cons_succ] at x0 x1 x2
  replace e3 := Lib.hid e3; replace z3 := Lib.hid z3; replace T3 := Lib.hid T3
  go_wp2_with (fail)
  refine hf.mono ?_
  rintro e w4 ⟨rfl, b4⟩
  have T4 := T3.out.below b4
  have K4 := Lib.hid (K3.out.trans (b4.mono K3.out.size))
  have e4 := (b4.block _ (blkX e3.out)).trans e3.out
  have z4 := (b4.block _ (blkX z3.out)).trans z3.out
  clear hf b4 T3 K3 e3 z3 x0 x1 x2
  have d0 := blkC T4.blk 0; have d1 := blkC T4.blk 1
  simp only [List.getElem?_toArray, List.getElem?_cons_zero, List.getElem?_cons_succ] at d0 d1
  have hsz := h.out.sz; have hle := h.out.le
  have i0 : (0 : Int) ≤ P.length := by omega
  replace T4 := Lib.hid T4
  have hln : P.length ≤ 2048 := by omega
  replace e4 := Lib.hid e4; replace z4 := Lib.hid z4
  go_wp2_with (fail)
  go_quiet (fail)
  go_wp2_with (fail)
  have T := Lib.hid (T4.out.below (below_drewN (Below.refl _ _) nq)); have KB := Lib.hid (below_drewN K4.out nq); have e := Lib.hid (show (w4.drewN nq).heap[w.heap.size]? = _ from e4.out); have z := Lib.hid (show (w4.drewN nq).heap[w.heap.size + 1]? = _ from z4.out)
  clear T4 K4 e4 z4 d0 d1
  generalize w4.drewN nq = W5 at *
  have T' := Lib.hid (T.out.below ((Below.refl _ W5).drew)); have KB' := Lib.hid (KB.out.drew); have e' := Lib.hid (show W5.drew.heap[w.heap.size]? = _ from e.out); have z' := Lib.hid (show W5.drew.heap[w.heap.size + 1]? = _ from z.out)
  clear T KB e z; have T := T'; have KB := KB'; have e := e'; have z := z'; clear T' KB' e' z'
  refine wp_region_any (by kernel_rfl) ?_
  try (change wpAny _ _ _ _ _ _ _ (World.drew _))
  generalize W5.drew = V0 at *
  refine wpAny_take (i := 0) (v := ?_) rfl (by kernel_rfl) (by kernel_rfl) (by kernel_rfl) (fun _ _ _ h => h) (Or.inl ⟨by rfl, by intro w; go_simp; first | done | with_reducible rfl⟩) ?_
  simp only [List.getElem_toArray, List.getElem_cons_succ, List.getElem_cons_zero, Act.put, List.setIfInBounds_toArray, List.set_cons_zero, List.set_cons_succ]
  refine wpAny_take (i := 1) (v := ?_) rfl (by kernel_rfl) (by kernel_rfl) (by kernel_rfl) (fun _ _ _ h => h) (Or.inl ⟨by rfl, by intro w; go_simp; first | done | with_reducible rfl⟩) ?_
  simp only [List.getElem_toArray, List.getElem_cons_succ, List.getElem_cons_zero, Act.put, List.setIfInBounds_toArray, List.set_cons_zero, List.set_cons_succ]
  refine wpAny_take (i := 2) (v := ?_) rfl (by kernel_rfl) (by kernel_rfl) (by kernel_rfl) (fun _ _ _ h => h) (Or.inl ⟨by rfl, by intro w; go_simp; first | done | with_reducible rfl⟩) ?_
  simp only [List.getElem_toArray, List.getElem_cons_succ, List.getElem_cons_zero, Act.put, List.setIfInBounds_toArray, List.set_cons_zero, List.set_cons_succ]
  refine wpAny_take (i := 3) (v := ?_) rfl (by kernel_rfl) (by kernel_rfl) (by kernel_rfl) (fun _ _ _ h => h) (Or.inl ⟨by rfl, by intro w; go_simp; first | done | with_reducible rfl⟩) ?_
  simp only [List.getElem_toArray, List.getElem_cons_succ, List.getElem_cons_zero, Act.put, List.setIfInBounds_toArray, List.set_cons_zero, List.set_cons_succ]
  refine wpAny_take (i := 6) (v := ?_) rfl (by kernel_rfl) (by kernel_rfl) (by kernel_rfl) (fun _ _ _ h => h) (Or.inl ⟨by rfl, by intro w; go_simp; first | done | with_reducible rfl⟩) ?_
  simp only [List.getElem_toArray, List.getElem_cons_succ, List.getElem_cons_zero, Act.put, List.setIfInBounds_toArray, List.set_cons_zero, List.set_cons_succ]
  refine wpAny_ready (rs := [4, 5, 7]) (by kernel_rfl) (by simp) ?_
  refine AllReady.cons rfl (fun K hK => ?_) ?_
  · have hK' := hK; clear hK; have hK := hK'; clear hK'
    have d1 := blkC T.out.blk 1
    simp only [List.getElem?_toArray, List.getElem?_cons_zero, List.getElem?_cons_succ] at d1
    go_simp
    refine hK _ _ ?_
    clear hK K d1
    refine wpAny_ready (rs := [5, 7]) (by kernel_rfl) (by simp) ?_
    refine AllReady.cons rfl (fun K hK => ?_) ?_
    · have hK' := hK; clear hK; have hK := hK'; clear hK'
      have x0 := blkC e.out 0; have x1 := blkC e.out 1; have x2 := blkC e.out 2
      simp only [List.getElem?_toArray, List.getElem?_cons_zero, List.getElem?_cons_succ] at x0 x1 x2
      go_simp
      refine hK _ _ ?_
      clear hK K x0 x1 x2
      refine wpAny_ready (rs := [7]) (by kernel_rfl) (by simp) ?_
      refine AllReady.cons rfl (fun K hK => ?_) ?_
      · have hK' := hK; clear hK; have hK := hK'; clear hK'
        have q0 := blkC z.out 0; have q1 := blkC z.out 1; have q2 := blkC z.out 2
        simp only [List.getElem?_toArray, List.getElem?_cons_zero, List.getElem?_cons_succ] at q0 q1 q2
        go_simp
        refine hK _ _ ?_
        clear hK K q0 q1 q2
        refine wpAny_take (i := 8) (v := ?_) rfl (by kernel_rfl) (by kernel_rfl) (by kernel_rfl) (fun _ _ _ h => h) (Or.inl ⟨by rfl, by intro w; go_simp; first | done | with_reducible rfl⟩) ?_
        simp only [List.getElem_toArray, List.getElem_cons_succ, List.getElem_cons_zero, Act.put, List.setIfInBounds_toArray, List.set_cons_zero, List.set_cons_succ]
        refine wpAny_ready (rs := [9]) (by kernel_rfl) (by simp) ?_
        refine AllReady.cons rfl (fun K hK => ?_) ?_
        · have hK' := hK; clear hK; have hK := hK'; clear hK'
          have bb := (Below.refl _ V0).alloc (Nat.le_refl _) (.cells #[.int .i64 y.1, .int .i64 y.2.1, .int .i64 y.2.2, .string key, .int .i64 r.1, .int .i64 r.2.1, .string r.2.2] 94)
          have hB := Lib.hid (enr_one V0 ⟨y, key, r⟩)
          have TX := Lib.hid (T.out.below bb); have eX := Lib.hid ((bb.block _ (blkX e.out)).trans e.out); have zX := Lib.hid ((bb.block _ (blkX z.out)).trans z.out); have KBX := Lib.hid (KB.out.trans (bb.mono KB.out.size))
          clear T e z KB; have T := TX; have e := eX; have z := zX; have KB := KBX; clear TX eX zX KBX
          go_simp
          obtain ⟨R, hR⟩ : ∃ R, R = V0.heap.size := ⟨_, rfl⟩
          rw [← hR] at hB ⊢
          clear hR bb
          generalize V0.alloc (.cells #[.int .i64 y.1, .int .i64 y.2.1, .int .i64 y.2.2, .string key, .int .i64 r.1, .int .i64 r.2.1, .string r.2.2] 94) = V1 at *
          refine hK _ _ ?_
          clear hK K
          refine wpAny_ready (rs := [10]) (by kernel_rfl) (by simp) ?_
          refine AllReady.cons rfl (fun K hK => ?_) ?_
          · have hK' := hK; clear hK; have hK := hK'; clear hK'
            obtain ⟨A', c', V2, hrun, hcap, hown, hgr, hat⟩ := append_sl elemR encR_len encR_one (ty := 83) (d := 1) T.out.own (Nat.le_trans hb KB.out.size) hB.out (by omega) (by omega)
            go_simp
            refine hK _ _ ?_
            clear hK K
            refine wpAny_take (i := 11) (v := ?_) rfl (by kernel_rfl) (by kernel_rfl) (by kernel_rfl) (fun _ _ _ h => h) (Or.inl ⟨by rfl, by intro w; go_simp; first | done | with_reducible rfl⟩) ?_
            simp only [List.getElem_toArray, List.getElem_cons_succ, List.getElem_cons_zero, Act.put, List.setIfInBounds_toArray, List.set_cons_zero, List.set_cons_succ]
            refine wpAny_take (i := 12) (v := ?_) rfl (by kernel_rfl) (by kernel_rfl) (by kernel_rfl) (fun _ _ _ h => h) (Or.inl ⟨by rfl, by intro w; go_simp; first | done | with_reducible rfl⟩) ?_
            simp only [List.getElem_toArray, List.getElem_cons_succ, List.getElem_cons_zero, Act.put, List.setIfInBounds_toArray, List.set_cons_zero, List.set_cons_succ]
            refine wpAny_ready (rs := [13]) (by kernel_rfl) (by simp) ?_
            refine AllReady.cons rfl (fun K hK => ?_) ?_
            · have hK' := hK; clear hK; have hK := hK'; clear hK'
              obtain ⟨hD2, T3, mv⟩ := rtab_stored T.out hown hgr (hat.imp id fun q => ⟨_, q, Nat.le_refl _⟩) h5
              have d1 := blkC hD2 1; have f1 := blkF hD2
              simp only [List.getElem?_toArray, List.getElem?_cons_zero, List.getElem?_cons_succ] at d1
              go_simp
              refine hK _ _ ?_
              clear hK K
              refine wpAny_done (by kernel_rfl) ?_ _
              go_wp2_with (fail)
              go_ret
              exact ⟨A', c', rfl, T3, mv.pre KB.out⟩
            exact AllReady.nil
          exact AllReady.nil
        exact AllReady.nil
      exact AllReady.nil
    refine AllReady.cons rfl (fun K hK => ?_) ?_
    · have hK' := hK; clear hK; have hK := hK'; clear hK'
      have q0 := blkC z.out 0; have q1 := blkC z.out 1; have q2 := blkC z.out 2
      simp only [List.getElem?_toArray, List.getElem?_cons_zero, List.getElem?_cons_succ] at q0 q1 q2
      go_simp
      refine hK _ _ ?_
      clear hK K q0 q1 q2
      refine wpAny_ready (rs := [5]) (by kernel_rfl) (by simp) ?_
      refine AllReady.cons rfl (fun K hK => ?_) ?_
      · have hK' := hK; clear hK; have hK := hK'; clear hK'
        have x0 := blkC e.out 0; have x1 := blkC e.out 1; have x2 := blkC e.out 2
        simp only [List.getElem?_toArray, List.getElem?_cons_zero, List.getElem?_cons_succ] at x0 x1 x2
        go_simp
        refine hK _ _ ?_
        clear hK K x0 x1 x2
        refine wpAny_take (i := 8) (v := ?_) rfl (by kernel_rfl) (by kernel_rfl) (by kernel_rfl) (fun _ _ _ h => h) (Or.inl ⟨by rfl, by intro w; go_simp; first | done | with_reducible rfl⟩) ?_
        simp only [List.getElem_toArray, List.getElem_cons_succ, List.getElem_cons_zero, Act.put, List.setIfInBounds_toArray, List.set_cons_zero, List.set_cons_succ]
        refine wpAny_ready (rs := [9]) (by kernel_rfl) (by simp) ?_
        refine AllReady.cons rfl (fun K hK => ?_) ?_
        · have hK' := hK; clear hK; have hK := hK'; clear hK'
          have bb := (Below.refl _ V0).alloc (Nat.le_refl _) (.cells #[.int .i64 y.1, .int .i64 y.2.1, .int .i64 y.2.2, .string key, .int .i64 r.1, .int .i64 r.2.1, .string r.2.2] 94)
          have hB := Lib.hid (enr_one V0 ⟨y, key, r⟩)
          have TX := Lib.hid (T.out.below bb); have eX := Lib.hid ((bb.block _ (blkX e.out)).trans e.out); have zX := Lib.hid ((bb.block _ (blkX z.out)).trans z.out); have KBX := Lib.hid (KB.out.trans (bb.mono KB.out.size))
          clear T e z KB; have T := TX; have e := eX; have z := zX; have KB := KBX; clear TX eX zX KBX
          go_simp
          obtain ⟨R, hR⟩ : ∃ R, R = V0.heap.size := ⟨_, rfl⟩
          rw [← hR] at hB ⊢
          clear hR bb
          generalize V0.alloc (.cells #[.int .i64 y.1, .int .i64 y.2.1, .int .i64 y.2.2, .string key, .int .i64 r.1, .int .i64 r.2.1, .string r.2.2] 94) = V1 at *
          refine hK _ _ ?_
          clear hK K
          refine wpAny_ready (rs := [10]) (by kernel_rfl) (by simp) ?_
          refine AllReady.cons rfl (fun K hK => ?_) ?_
          · have hK' := hK; clear hK; have hK := hK'; clear hK'
            obtain ⟨A', c', V2, hrun, hcap, hown, hgr, hat⟩ := append_sl elemR encR_len encR_one (ty := 83) (d := 1) T.out.own (Nat.le_trans hb KB.out.size) hB.out (by omega) (by omega)
            go_simp
            refine hK _ _ ?_
            clear hK K
            refine wpAny_take (i := 11) (v := ?_) rfl (by kernel_rfl) (by kernel_rfl) (by kernel_rfl) (fun _ _ _ h => h) (Or.inl ⟨by rfl, by intro w; go_simp; first | done | with_reducible rfl⟩) ?_
            simp only [List.getElem_toArray, List.getElem_cons_succ, List.getElem_cons_zero, Act.put, List.setIfInBounds_toArray, List.set_cons_zero, List.set_cons_succ]
            refine wpAny_take (i := 12) (v := ?_) rfl (by kernel_rfl) (by kernel_rfl) (by kernel_rfl) (fun _ _ _ h => h) (Or.inl ⟨by rfl, by intro w; go_simp; first | done | with_reducible rfl⟩) ?_
            simp only [List.getElem_toArray, List.getElem_cons_succ, List.getElem_cons_zero, Act.put, List.setIfInBounds_toArray, List.set_cons_zero, List.set_cons_succ]
            refine wpAny_ready (rs := [13]) (by kernel_rfl) (by simp) ?_
            refine AllReady.cons rfl (fun K hK => ?_) ?_
            · have hK' := hK; clear hK; have hK := hK'; clear hK'
              obtain ⟨hD2, T3, mv⟩ := rtab_stored T.out hown hgr (hat.imp id fun q => ⟨_, q, Nat.le_refl _⟩) h5
              have d1 := blkC hD2 1; have f1 := blkF hD2
              simp only [List.getElem?_toArray, List.getElem?_cons_zero, List.getElem?_cons_succ] at d1
              go_simp
              refine hK _ _ ?_
              clear hK K
              refine wpAny_done (by kernel_rfl) ?_ _
              go_wp2_with (fail)
              go_ret
              exact ⟨A', c', rfl, T3, mv.pre KB.out⟩
            exact AllReady.nil
          exact AllReady.nil
        exact AllReady.nil
      exact AllReady.nil
    exact AllReady.nil
  refine AllReady.cons rfl (fun K hK => ?_) ?_
  · have hK' := hK; clear hK; have hK := hK'; clear hK'
    have x0 := blkC e.out 0; have x1 := blkC e.out 1; have x2 := blkC e.out 2
    simp only [List.getElem?_toArray, List.getElem?_cons_zero, List.getElem?_cons_succ] at x0 x1 x2
    go_simp
    refine hK _ _ ?_
    clear hK K x0 x1 x2
    refine wpAny_ready (rs := [4, 7]) (by kernel_rfl) (by simp) ?_
    refine AllReady.cons rfl (fun K hK => ?_) ?_
    · have hK' := hK; clear hK; have hK := hK'; clear hK'
      have d1 := blkC T.out.blk 1
      simp only [List.getElem?_toArray, List.getElem?_cons_zero, List.getElem?_cons_succ] at d1
      go_simp
      refine hK _ _ ?_
      clear hK K d1
      refine wpAny_ready (rs := [7]) (by kernel_rfl) (by simp) ?_
      refine AllReady.cons rfl (fun K hK => ?_) ?_
      · have hK' := hK; clear hK; have hK := hK'; clear hK'
        have q0 := blkC z.out 0; have q1 := blkC z.out 1; have q2 := blkC z.out 2
        simp only [List.getElem?_toArray, List.getElem?_cons_zero, List.getElem?_cons_succ] at q0 q1 q2
        go_simp
        refine hK _ _ ?_
        clear hK K q0 q1 q2
        refine wpAny_take (i := 8) (v := ?_) rfl (by kernel_rfl) (by kernel_rfl) (by kernel_rfl) (fun _ _ _ h => h) (Or.inl ⟨by rfl, by intro w; go_simp; first | done | with_reducible rfl⟩) ?_
        simp only [List.getElem_toArray, List.getElem_cons_succ, List.getElem_cons_zero, Act.put, List.setIfInBounds_toArray, List.set_cons_zero, List.set_cons_succ]
        refine wpAny_ready (rs := [9]) (by kernel_rfl) (by simp) ?_
        refine AllReady.cons rfl (fun K hK => ?_) ?_
        · have hK' := hK; clear hK; have hK := hK'; clear hK'
          have bb := (Below.refl _ V0).alloc (Nat.le_refl _) (.cells #[.int .i64 y.1, .int .i64 y.2.1, .int .i64 y.2.2, .string key, .int .i64 r.1, .int .i64 r.2.1, .string r.2.2] 94)
          have hB := Lib.hid (enr_one V0 ⟨y, key, r⟩)
          have TX := Lib.hid (T.out.below bb); have eX := Lib.hid ((bb.block _ (blkX e.out)).trans e.out); have zX := Lib.hid ((bb.block _ (blkX z.out)).trans z.out); have KBX := Lib.hid (KB.out.trans (bb.mono KB.out.size))
          clear T e z KB; have T := TX; have e := eX; have z := zX; have KB := KBX; clear TX eX zX KBX
          go_simp
          obtain ⟨R, hR⟩ : ∃ R, R = V0.heap.size := ⟨_, rfl⟩
          rw [← hR] at hB ⊢
          clear hR bb
          generalize V0.alloc (.cells #[.int .i64 y.1, .int .i64 y.2.1, .int .i64 y.2.2, .string key, .int .i64 r.1, .int .i64 r.2.1, .string r.2.2] 94) = V1 at *
          refine hK _ _ ?_
          clear hK K
          refine wpAny_ready (rs := [10]) (by kernel_rfl) (by simp) ?_
          refine AllReady.cons rfl (fun K hK => ?_) ?_
          · have hK' := hK; clear hK; have hK := hK'; clear hK'
            obtain ⟨A', c', V2, hrun, hcap, hown, hgr, hat⟩ := append_sl elemR encR_len encR_one (ty := 83) (d := 1) T.out.own (Nat.le_trans hb KB.out.size) hB.out (by omega) (by omega)
            go_simp
            refine hK _ _ ?_
            clear hK K
            refine wpAny_take (i := 11) (v := ?_) rfl (by kernel_rfl) (by kernel_rfl) (by kernel_rfl) (fun _ _ _ h => h) (Or.inl ⟨by rfl, by intro w; go_simp; first | done | with_reducible rfl⟩) ?_
            simp only [List.getElem_toArray, List.getElem_cons_succ, List.getElem_cons_zero, Act.put, List.setIfInBounds_toArray, List.set_cons_zero, List.set_cons_succ]
            refine wpAny_take (i := 12) (v := ?_) rfl (by kernel_rfl) (by kernel_rfl) (by kernel_rfl) (fun _ _ _ h => h) (Or.inl ⟨by rfl, by intro w; go_simp; first | done | with_reducible rfl⟩) ?_
            simp only [List.getElem_toArray, List.getElem_cons_succ, List.getElem_cons_zero, Act.put, List.setIfInBounds_toArray, List.set_cons_zero, List.set_cons_succ]
            refine wpAny_ready (rs := [13]) (by kernel_rfl) (by simp) ?_
            refine AllReady.cons rfl (fun K hK => ?_) ?_
            · have hK' := hK; clear hK; have hK := hK'; clear hK'
              obtain ⟨hD2, T3, mv⟩ := rtab_stored T.out hown hgr (hat.imp id fun q => ⟨_, q, Nat.le_refl _⟩) h5
              have d1 := blkC hD2 1; have f1 := blkF hD2
              simp only [List.getElem?_toArray, List.getElem?_cons_zero, List.getElem?_cons_succ] at d1
              go_simp
              refine hK _ _ ?_
              clear hK K
              refine wpAny_done (by kernel_rfl) ?_ _
              go_wp2_with (fail)
              go_ret
              exact ⟨A', c', rfl, T3, mv.pre KB.out⟩
            exact AllReady.nil
          exact AllReady.nil
        exact AllReady.nil
      exact AllReady.nil
    refine AllReady.cons rfl (fun K hK => ?_) ?_
    · have hK' := hK; clear hK; have hK := hK'; clear hK'
      have q0 := blkC z.out 0; have q1 := blkC z.out 1; have q2 := blkC z.out 2
      simp only [List.getElem?_toArray, List.getElem?_cons_zero, List.getElem?_cons_succ] at q0 q1 q2
      go_simp
      refine hK _ _ ?_
      clear hK K q0 q1 q2
      refine wpAny_take (i := 8) (v := ?_) rfl (by kernel_rfl) (by kernel_rfl) (by kernel_rfl) (fun _ _ _ h => h) (Or.inl ⟨by rfl, by intro w; go_simp; first | done | with_reducible rfl⟩) ?_
      simp only [List.getElem_toArray, List.getElem_cons_succ, List.getElem_cons_zero, Act.put, List.setIfInBounds_toArray, List.set_cons_zero, List.set_cons_succ]
      refine wpAny_ready (rs := [4, 9]) (by kernel_rfl) (by simp) ?_
      refine AllReady.cons rfl (fun K hK => ?_) ?_
      · have hK' := hK; clear hK; have hK := hK'; clear hK'
        have d1 := blkC T.out.blk 1
        simp only [List.getElem?_toArray, List.getElem?_cons_zero, List.getElem?_cons_succ] at d1
        go_simp
        refine hK _ _ ?_
        clear hK K d1
        refine wpAny_ready (rs := [9]) (by kernel_rfl) (by simp) ?_
        refine AllReady.cons rfl (fun K hK => ?_) ?_
        · have hK' := hK; clear hK; have hK := hK'; clear hK'
          have bb := (Below.refl _ V0).alloc (Nat.le_refl _) (.cells #[.int .i64 y.1, .int .i64 y.2.1, .int .i64 y.2.2, .string key, .int .i64 r.1, .int .i64 r.2.1, .string r.2.2] 94)
          have hB := Lib.hid (enr_one V0 ⟨y, key, r⟩)
          have TX := Lib.hid (T.out.below bb); have eX := Lib.hid ((bb.block _ (blkX e.out)).trans e.out); have zX := Lib.hid ((bb.block _ (blkX z.out)).trans z.out); have KBX := Lib.hid (KB.out.trans (bb.mono KB.out.size))
          clear T e z KB; have T := TX; have e := eX; have z := zX; have KB := KBX; clear TX eX zX KBX
          go_simp
          obtain ⟨R, hR⟩ : ∃ R, R = V0.heap.size := ⟨_, rfl⟩
          rw [← hR] at hB ⊢
          clear hR bb
          generalize V0.alloc (.cells #[.int .i64 y.1, .int .i64 y.2.1, .int .i64 y.2.2, .string key, .int .i64 r.1, .int .i64 r.2.1, .string r.2.2] 94) = V1 at *
          refine hK _ _ ?_
          clear hK K
          refine wpAny_ready (rs := [10]) (by kernel_rfl) (by simp) ?_
          refine AllReady.cons rfl (fun K hK => ?_) ?_
          · have hK' := hK; clear hK; have hK := hK'; clear hK'
            obtain ⟨A', c', V2, hrun, hcap, hown, hgr, hat⟩ := append_sl elemR encR_len encR_one (ty := 83) (d := 1) T.out.own (Nat.le_trans hb KB.out.size) hB.out (by omega) (by omega)
            go_simp
            refine hK _ _ ?_
            clear hK K
            refine wpAny_take (i := 11) (v := ?_) rfl (by kernel_rfl) (by kernel_rfl) (by kernel_rfl) (fun _ _ _ h => h) (Or.inl ⟨by rfl, by intro w; go_simp; first | done | with_reducible rfl⟩) ?_
            simp only [List.getElem_toArray, List.getElem_cons_succ, List.getElem_cons_zero, Act.put, List.setIfInBounds_toArray, List.set_cons_zero, List.set_cons_succ]
            refine wpAny_take (i := 12) (v := ?_) rfl (by kernel_rfl) (by kernel_rfl) (by kernel_rfl) (fun _ _ _ h => h) (Or.inl ⟨by rfl, by intro w; go_simp; first | done | with_reducible rfl⟩) ?_
            simp only [List.getElem_toArray, List.getElem_cons_succ, List.getElem_cons_zero, Act.put, List.setIfInBounds_toArray, List.set_cons_zero, List.set_cons_succ]
            refine wpAny_ready (rs := [13]) (by kernel_rfl) (by simp) ?_
            refine AllReady.cons rfl (fun K hK => ?_) ?_
            · have hK' := hK; clear hK; have hK := hK'; clear hK'
              obtain ⟨hD2, T3, mv⟩ := rtab_stored T.out hown hgr (hat.imp id fun q => ⟨_, q, Nat.le_refl _⟩) h5
              have d1 := blkC hD2 1; have f1 := blkF hD2
              simp only [List.getElem?_toArray, List.getElem?_cons_zero, List.getElem?_cons_succ] at d1
              go_simp
              refine hK _ _ ?_
              clear hK K
              refine wpAny_done (by kernel_rfl) ?_ _
              go_wp2_with (fail)
              go_ret
              exact ⟨A', c', rfl, T3, mv.pre KB.out⟩
            exact AllReady.nil
          exact AllReady.nil
        exact AllReady.nil
      refine AllReady.cons rfl (fun K hK => ?_) ?_
      · have hK' := hK; clear hK; have hK := hK'; clear hK'
        have bb := (Below.refl _ V0).alloc (Nat.le_refl _) (.cells #[.int .i64 y.1, .int .i64 y.2.1, .int .i64 y.2.2, .string key, .int .i64 r.1, .int .i64 r.2.1, .string r.2.2] 94)
        have hB := Lib.hid (enr_one V0 ⟨y, key, r⟩)
        have TX := Lib.hid (T.out.below bb); have eX := Lib.hid ((bb.block _ (blkX e.out)).trans e.out); have zX := Lib.hid ((bb.block _ (blkX z.out)).trans z.out); have KBX := Lib.hid (KB.out.trans (bb.mono KB.out.size))
        clear T e z KB; have T := TX; have e := eX; have z := zX; have KB := KBX; clear TX eX zX KBX
        go_simp
        obtain ⟨R, hR⟩ : ∃ R, R = V0.heap.size := ⟨_, rfl⟩
        rw [← hR] at hB ⊢
        clear hR bb
        generalize V0.alloc (.cells #[.int .i64 y.1, .int .i64 y.2.1, .int .i64 y.2.2, .string key, .int .i64 r.1, .int .i64 r.2.1, .string r.2.2] 94) = V1 at *
        refine hK _ _ ?_
        clear hK K
        refine wpAny_ready (rs := [4]) (by kernel_rfl) (by simp) ?_
        refine AllReady.cons rfl (fun K hK => ?_) ?_
        · have hK' := hK; clear hK; have hK := hK'; clear hK'
          have d1 := blkC T.out.blk 1
          simp only [List.getElem?_toArray, List.getElem?_cons_zero, List.getElem?_cons_succ] at d1
          go_simp
          refine hK _ _ ?_
          clear hK K d1
          refine wpAny_ready (rs := [10]) (by kernel_rfl) (by simp) ?_
          refine AllReady.cons rfl (fun K hK => ?_) ?_
          · have hK' := hK; clear hK; have hK := hK'; clear hK'
            obtain ⟨A', c', V2, hrun, hcap, hown, hgr, hat⟩ := append_sl elemR encR_len encR_one (ty := 83) (d := 1) T.out.own (Nat.le_trans hb KB.out.size) hB.out (by omega) (by omega)
            go_simp
            refine hK _ _ ?_
            clear hK K
            refine wpAny_take (i := 11) (v := ?_) rfl (by kernel_rfl) (by kernel_rfl) (by kernel_rfl) (fun _ _ _ h => h) (Or.inl ⟨by rfl, by intro w; go_simp; first | done | with_reducible rfl⟩) ?_
            simp only [List.getElem_toArray, List.getElem_cons_succ, List.getElem_cons_zero, Act.put, List.setIfInBounds_toArray, List.set_cons_zero, List.set_cons_succ]
            refine wpAny_take (i := 12) (v := ?_) rfl (by kernel_rfl) (by kernel_rfl) (by kernel_rfl) (fun _ _ _ h => h) (Or.inl ⟨by rfl, by intro w; go_simp; first | done | with_reducible rfl⟩) ?_
            simp only [List.getElem_toArray, List.getElem_cons_succ, List.getElem_cons_zero, Act.put, List.setIfInBounds_toArray, List.set_cons_zero, List.set_cons_succ]
            refine wpAny_ready (rs := [13]) (by kernel_rfl) (by simp) ?_
            refine AllReady.cons rfl (fun K hK => ?_) ?_
            · have hK' := hK; clear hK; have hK := hK'; clear hK'
              obtain ⟨hD2, T3, mv⟩ := rtab_stored T.out hown hgr (hat.imp id fun q => ⟨_, q, Nat.le_refl _⟩) h5
              have d1 := blkC hD2 1; have f1 := blkF hD2
              simp only [List.getElem?_toArray, List.getElem?_cons_zero, List.getElem?_cons_succ] at d1
              go_simp
              refine hK _ _ ?_
              clear hK K
              refine wpAny_done (by kernel_rfl) ?_ _
              go_wp2_with (fail)
              go_ret
              exact ⟨A', c', rfl, T3, mv.pre KB.out⟩
            exact AllReady.nil
          exact AllReady.nil
        exact AllReady.nil
      exact AllReady.nil
    exact AllReady.nil
  refine AllReady.cons rfl (fun K hK => ?_) ?_
  · have hK' := hK; clear hK; have hK := hK'; clear hK'
    have q0 := blkC z.out 0; have q1 := blkC z.out 1; have q2 := blkC z.out 2
    simp only [List.getElem?_toArray, List.getElem?_cons_zero, List.getElem?_cons_succ] at q0 q1 q2
    go_simp
    refine hK _ _ ?_
    clear hK K q0 q1 q2
    refine wpAny_ready (rs := [4, 5]) (by kernel_rfl) (by simp) ?_
    refine AllReady.cons rfl (fun K hK => ?_) ?_
    · have hK' := hK; clear hK; have hK := hK'; clear hK'
      have d1 := blkC T.out.blk 1
      simp only [List.getElem?_toArray, List.getElem?_cons_zero, List.getElem?_cons_succ] at d1
      go_simp
      refine hK _ _ ?_
      clear hK K d1
      refine wpAny_ready (rs := [5]) (by kernel_rfl) (by simp) ?_
      refine AllReady.cons rfl (fun K hK => ?_) ?_
      · have hK' := hK; clear hK; have hK := hK'; clear hK'
        have x0 := blkC e.out 0; have x1 := blkC e.out 1; have x2 := blkC e.out 2
        simp only [List.getElem?_toArray, List.getElem?_cons_zero, List.getElem?_cons_succ] at x0 x1 x2
        go_simp
        refine hK _ _ ?_
        clear hK K x0 x1 x2
        refine wpAny_take (i := 8) (v := ?_) rfl (by kernel_rfl) (by kernel_rfl) (by kernel_rfl) (fun _ _ _ h => h) (Or.inl ⟨by rfl, by intro w; go_simp; first | done | with_reducible rfl⟩) ?_
        simp only [List.getElem_toArray, List.getElem_cons_succ, List.getElem_cons_zero, Act.put, List.setIfInBounds_toArray, List.set_cons_zero, List.set_cons_succ]
        refine wpAny_ready (rs := [9]) (by kernel_rfl) (by simp) ?_
        refine AllReady.cons rfl (fun K hK => ?_) ?_
        · have hK' := hK; clear hK; have hK := hK'; clear hK'
          have bb := (Below.refl _ V0).alloc (Nat.le_refl _) (.cells #[.int .i64 y.1, .int .i64 y.2.1, .int .i64 y.2.2, .string key, .int .i64 r.1, .int .i64 r.2.1, .string r.2.2] 94)
          have hB := Lib.hid (enr_one V0 ⟨y, key, r⟩)
          have TX := Lib.hid (T.out.below bb); have eX := Lib.hid ((bb.block _ (blkX e.out)).trans e.out); have zX := Lib.hid ((bb.block _ (blkX z.out)).trans z.out); have KBX := Lib.hid (KB.out.trans (bb.mono KB.out.size))
          clear T e z KB; have T := TX; have e := eX; have z := zX; have KB := KBX; clear TX eX zX KBX
          go_simp
          obtain ⟨R, hR⟩ : ∃ R, R = V0.heap.size := ⟨_, rfl⟩
          rw [← hR] at hB ⊢
          clear hR bb
          generalize V0.alloc (.cells #[.int .i64 y.1, .int .i64 y.2.1, .int .i64 y.2.2, .string key, .int .i64 r.1, .int .i64 r.2.1, .string r.2.2] 94) = V1 at *
          refine hK _ _ ?_
          clear hK K
          refine wpAny_ready (rs := [10]) (by kernel_rfl) (by simp) ?_
          refine AllReady.cons rfl (fun K hK => ?_) ?_
          · have hK' := hK; clear hK; have hK := hK'; clear hK'
            obtain ⟨A', c', V2, hrun, hcap, hown, hgr, hat⟩ := append_sl elemR encR_len encR_one (ty := 83) (d := 1) T.out.own (Nat.le_trans hb KB.out.size) hB.out (by omega) (by omega)
            go_simp
            refine hK _ _ ?_
            clear hK K
            refine wpAny_take (i := 11) (v := ?_) rfl (by kernel_rfl) (by kernel_rfl) (by kernel_rfl) (fun _ _ _ h => h) (Or.inl ⟨by rfl, by intro w; go_simp; first | done | with_reducible rfl⟩) ?_
            simp only [List.getElem_toArray, List.getElem_cons_succ, List.getElem_cons_zero, Act.put, List.setIfInBounds_toArray, List.set_cons_zero, List.set_cons_succ]
            refine wpAny_take (i := 12) (v := ?_) rfl (by kernel_rfl) (by kernel_rfl) (by kernel_rfl) (fun _ _ _ h => h) (Or.inl ⟨by rfl, by intro w; go_simp; first | done | with_reducible rfl⟩) ?_
            simp only [List.getElem_toArray, List.getElem_cons_succ, List.getElem_cons_zero, Act.put, List.setIfInBounds_toArray, List.set_cons_zero, List.set_cons_succ]
            refine wpAny_ready (rs := [13]) (by kernel_rfl) (by simp) ?_
            refine AllReady.cons rfl (fun K hK => ?_) ?_
            · have hK' := hK; clear hK; have hK := hK'; clear hK'
              obtain ⟨hD2, T3, mv⟩ := rtab_stored T.out hown hgr (hat.imp id fun q => ⟨_, q, Nat.le_refl _⟩) h5
              have d1 := blkC hD2 1; have f1 := blkF hD2
              simp only [List.getElem?_toArray, List.getElem?_cons_zero, List.getElem?_cons_succ] at d1
              go_simp
              refine hK _ _ ?_
              clear hK K
              refine wpAny_done (by kernel_rfl) ?_ _
              go_wp2_with (fail)
              go_ret
              exact ⟨A', c', rfl, T3, mv.pre KB.out⟩
            exact AllReady.nil
          exact AllReady.nil
        exact AllReady.nil
      exact AllReady.nil
    refine AllReady.cons rfl (fun K hK => ?_) ?_
    · have hK' := hK; clear hK; have hK := hK'; clear hK'
      have x0 := blkC e.out 0; have x1 := blkC e.out 1; have x2 := blkC e.out 2
      simp only [List.getElem?_toArray, List.getElem?_cons_zero, List.getElem?_cons_succ] at x0 x1 x2
      go_simp
      refine hK _ _ ?_
      clear hK K x0 x1 x2
      refine wpAny_take (i := 8) (v := ?_) rfl (by kernel_rfl) (by kernel_rfl) (by kernel_rfl) (fun _ _ _ h => h) (Or.inl ⟨by rfl, by intro w; go_simp; first | done | with_reducible rfl⟩) ?_
      simp only [List.getElem_toArray, List.getElem_cons_succ, List.getElem_cons_zero, Act.put, List.setIfInBounds_toArray, List.set_cons_zero, List.set_cons_succ]
      refine wpAny_ready (rs := [4, 9]) (by kernel_rfl) (by simp) ?_
      refine AllReady.cons rfl (fun K hK => ?_) ?_
      · have hK' := hK; clear hK; have hK := hK'; clear hK'
        have d1 := blkC T.out.blk 1
        simp only [List.getElem?_toArray, List.getElem?_cons_zero, List.getElem?_cons_succ] at d1
        go_simp
        refine hK _ _ ?_
        clear hK K d1
        refine wpAny_ready (rs := [9]) (by kernel_rfl) (by simp) ?_
        refine AllReady.cons rfl (fun K hK => ?_) ?_
        · have hK' := hK; clear hK; have hK := hK'; clear hK'
          have bb := (Below.refl _ V0).alloc (Nat.le_refl _) (.cells #[.int .i64 y.1, .int .i64 y.2.1, .int .i64 y.2.2, .string key, .int .i64 r.1, .int .i64 r.2.1, .string r.2.2] 94)
          have hB := Lib.hid (enr_one V0 ⟨y, key, r⟩)
          have TX := Lib.hid (T.out.below bb); have eX := Lib.hid ((bb.block _ (blkX e.out)).trans e.out); have zX := Lib.hid ((bb.block _ (blkX z.out)).trans z.out); have KBX := Lib.hid (KB.out.trans (bb.mono KB.out.size))
          clear T e z KB; have T := TX; have e := eX; have z := zX; have KB := KBX; clear TX eX zX KBX
          go_simp
          obtain ⟨R, hR⟩ : ∃ R, R = V0.heap.size := ⟨_, rfl⟩
          rw [← hR] at hB ⊢
          clear hR bb
          generalize V0.alloc (.cells #[.int .i64 y.1, .int .i64 y.2.1, .int .i64 y.2.2, .string key, .int .i64 r.1, .int .i64 r.2.1, .string r.2.2] 94) = V1 at *
          refine hK _ _ ?_
          clear hK K
          refine wpAny_ready (rs := [10]) (by kernel_rfl) (by simp) ?_
          refine AllReady.cons rfl (fun K hK => ?_) ?_
          · have hK' := hK; clear hK; have hK := hK'; clear hK'
            obtain ⟨A', c', V2, hrun, hcap, hown, hgr, hat⟩ := append_sl elemR encR_len encR_one (ty := 83) (d := 1) T.out.own (Nat.le_trans hb KB.out.size) hB.out (by omega) (by omega)
            go_simp
            refine hK _ _ ?_
            clear hK K
            refine wpAny_take (i := 11) (v := ?_) rfl (by kernel_rfl) (by kernel_rfl) (by kernel_rfl) (fun _ _ _ h => h) (Or.inl ⟨by rfl, by intro w; go_simp; first | done | with_reducible rfl⟩) ?_
            simp only [List.getElem_toArray, List.getElem_cons_succ, List.getElem_cons_zero, Act.put, List.setIfInBounds_toArray, List.set_cons_zero, List.set_cons_succ]
            refine wpAny_take (i := 12) (v := ?_) rfl (by kernel_rfl) (by kernel_rfl) (by kernel_rfl) (fun _ _ _ h => h) (Or.inl ⟨by rfl, by intro w; go_simp; first | done | with_reducible rfl⟩) ?_
            simp only [List.getElem_toArray, List.getElem_cons_succ, List.getElem_cons_zero, Act.put, List.setIfInBounds_toArray, List.set_cons_zero, List.set_cons_succ]
            refine wpAny_ready (rs := [13]) (by kernel_rfl) (by simp) ?_
            refine AllReady.cons rfl (fun K hK => ?_) ?_
            · have hK' := hK; clear hK; have hK := hK'; clear hK'
              obtain ⟨hD2, T3, mv⟩ := rtab_stored T.out hown hgr (hat.imp id fun q => ⟨_, q, Nat.le_refl _⟩) h5
              have d1 := blkC hD2 1; have f1 := blkF hD2
              simp only [List.getElem?_toArray, List.getElem?_cons_zero, List.getElem?_cons_succ] at d1
              go_simp
              refine hK _ _ ?_
              clear hK K
              refine wpAny_done (by kernel_rfl) ?_ _
              go_wp2_with (fail)
              go_ret
              exact ⟨A', c', rfl, T3, mv.pre KB.out⟩
            exact AllReady.nil
          exact AllReady.nil
        exact AllReady.nil
      refine AllReady.cons rfl (fun K hK => ?_) ?_
      · have hK' := hK; clear hK; have hK := hK'; clear hK'
        have bb := (Below.refl _ V0).alloc (Nat.le_refl _) (.cells #[.int .i64 y.1, .int .i64 y.2.1, .int .i64 y.2.2, .string key, .int .i64 r.1, .int .i64 r.2.1, .string r.2.2] 94)
        have hB := Lib.hid (enr_one V0 ⟨y, key, r⟩)
        have TX := Lib.hid (T.out.below bb); have eX := Lib.hid ((bb.block _ (blkX e.out)).trans e.out); have zX := Lib.hid ((bb.block _ (blkX z.out)).trans z.out); have KBX := Lib.hid (KB.out.trans (bb.mono KB.out.size))
        clear T e z KB; have T := TX; have e := eX; have z := zX; have KB := KBX; clear TX eX zX KBX
        go_simp
        obtain ⟨R, hR⟩ : ∃ R, R = V0.heap.size := ⟨_, rfl⟩
        rw [← hR] at hB ⊢
        clear hR bb
        generalize V0.alloc (.cells #[.int .i64 y.1, .int .i64 y.2.1, .int .i64 y.2.2, .string key, .int .i64 r.1, .int .i64 r.2.1, .string r.2.2] 94) = V1 at *
        refine hK _ _ ?_
        clear hK K
        refine wpAny_ready (rs := [4]) (by kernel_rfl) (by simp) ?_
        refine AllReady.cons rfl (fun K hK => ?_) ?_
        · have hK' := hK; clear hK; have hK := hK'; clear hK'
          have d1 := blkC T.out.blk 1
          simp only [List.getElem?_toArray, List.getElem?_cons_zero, List.getElem?_cons_succ] at d1
          go_simp
          refine hK _ _ ?_
          clear hK K d1
          refine wpAny_ready (rs := [10]) (by kernel_rfl) (by simp) ?_
          refine AllReady.cons rfl (fun K hK => ?_) ?_
          · have hK' := hK; clear hK; have hK := hK'; clear hK'
            obtain ⟨A', c', V2, hrun, hcap, hown, hgr, hat⟩ := append_sl elemR encR_len encR_one (ty := 83) (d := 1) T.out.own (Nat.le_trans hb KB.out.size) hB.out (by omega) (by omega)
            go_simp
            refine hK _ _ ?_
            clear hK K
            refine wpAny_take (i := 11) (v := ?_) rfl (by kernel_rfl) (by kernel_rfl) (by kernel_rfl) (fun _ _ _ h => h) (Or.inl ⟨by rfl, by intro w; go_simp; first | done | with_reducible rfl⟩) ?_
            simp only [List.getElem_toArray, List.getElem_cons_succ, List.getElem_cons_zero, Act.put, List.setIfInBounds_toArray, List.set_cons_zero, List.set_cons_succ]
            refine wpAny_take (i := 12) (v := ?_) rfl (by kernel_rfl) (by kernel_rfl) (by kernel_rfl) (fun _ _ _ h => h) (Or.inl ⟨by rfl, by intro w; go_simp; first | done | with_reducible rfl⟩) ?_
            simp only [List.getElem_toArray, List.getElem_cons_succ, List.getElem_cons_zero, Act.put, List.setIfInBounds_toArray, List.set_cons_zero, List.set_cons_succ]
            refine wpAny_ready (rs := [13]) (by kernel_rfl) (by simp) ?_
            refine AllReady.cons rfl (fun K hK => ?_) ?_
            · have hK' := hK; clear hK; have hK := hK'; clear hK'
              obtain ⟨hD2, T3, mv⟩ := rtab_stored T.out hown hgr (hat.imp id fun q => ⟨_, q, Nat.le_refl _⟩) h5
              have d1 := blkC hD2 1; have f1 := blkF hD2
              simp only [List.getElem?_toArray, List.getElem?_cons_zero, List.getElem?_cons_succ] at d1
              go_simp
              refine hK _ _ ?_
              clear hK K
              refine wpAny_done (by kernel_rfl) ?_ _
              go_wp2_with (fail)
              go_ret
              exact ⟨A', c', rfl, T3, mv.pre KB.out⟩
            exact AllReady.nil
          exact AllReady.nil
        exact AllReady.nil
      exact AllReady.nil
    exact AllReady.nil
  exact AllReady.nil
theorem rput_any {base D c : Nat} {size : Int} {A : Option Addr} {P : List En} {w : World} (h : TabR base D size A c P w) (hb : base ≤ w.heap.size) (y : Ef) (key : ByteArray) (r : Rp) (hkey : key.size ≤ 140737488355328) :
    Calls Tryd.prog 19 #[.pointer (some ⟨D, 0, none⟩), .agg #[.int .i64 y.1, .int .i64 y.2.1, .int .i64 y.2.2], .string key, .agg #[.int .i64 r.1, .int .i64 r.2.1, .string r.2.2]] w fun e w' => ∃ A' c', e = .returned (.int .i64 (putC size P ⟨y, key, r⟩)) ∧ TabR base D size A' c' (putR size P ⟨y, key, r⟩) w' ∧ Mv D A A' w w' := by
  have key2 : ∀ v, putC size P ⟨y, key, r⟩ = v → v ≠ 0 → putR size P ⟨y, key, r⟩ = P := fun v hv h0 => by unfold putR; rw [hv, if_neg h0]
  have hok : okP ⟨y, key, r⟩ = (okE y && nameB key && okR r) := rfl
  cases h1 : okE y with
  | false =>
    have hc : putC size P ⟨y, key, r⟩ = 2 := by unfold putC; rw [hok, h1]; rfl
    rw [hc, key2 2 hc (by decide)]
    exact rput_e h hb y key r hkey h1
  | true =>
    cases h2 : nameB key with
    | false =>
      have hc : putC size P ⟨y, key, r⟩ = 2 := by unfold putC; rw [hok, h1, h2]; rfl
      rw [hc, key2 2 hc (by decide)]
      exact rput_n h hb y key r hkey h1 h2
    | true =>
      cases h3 : okR r with
      | false =>
        have hc : putC size P ⟨y, key, r⟩ = 2 := by unfold putC; rw [hok, h1, h2, h3]; rfl
        rw [hc, key2 2 hc (by decide)]
        exact rput_r h hb y key r hkey h1 h2 h3
      | true =>
        have hok2 : okP ⟨y, key, r⟩ = true := by rw [hok, h1, h2, h3]; rfl
        cases h4 : (look P y).isSome with
        | true =>
          have hc : putC size P ⟨y, key, r⟩ = 6 := by unfold putC; rw [if_pos hok2, if_pos (show (look P y).isSome = true from h4)]
          rw [hc, key2 6 hc (by decide)]
          exact rput_h h hb y key r hkey h1 h2 h3 h4
        | false =>
          have h4' : ¬ (look P y).isSome = true := by rw [h4]; decide
          by_cases h5 : size ≤ (P.length : Int)
          · have hc : putC size P ⟨y, key, r⟩ = 4 := by unfold putC; rw [if_pos hok2, if_neg h4', if_pos h5]
            rw [hc, key2 4 hc (by decide)]
            exact rput_f h hb y key r hkey h1 h2 h3 h4 h5
          · have hc : putC size P ⟨y, key, r⟩ = 0 := by unfold putC; rw [if_pos hok2, if_neg h4', if_neg h5]
            have hp : putR size P ⟨y, key, r⟩ = P ++ [⟨y, key, r⟩] := by unfold putR; rw [if_pos hc]
            rw [hc, hp]
            exact rput_y h hb y key r hkey h1 h2 h3 h4 (by omega)
end Go.Proofs.YtkdfhackpmdgfaaDoor
