/- The document's Take. -/
import Derived.Test.YtkdfhackpmdgfaaDoorROwr
namespace Go.Proofs.YtkdfhackpmdgfaaDoor
open Go.RowKit Go.Shelf
set_option linter.unusedSimpArgs false
set_option linter.unusedVariables false
set_option linter.unusedSectionVars false
set_option maxRecDepth 10000
theorem SL.rows' {α : Type} {enc : α → List Value} {k : Nat} {w w' : World} {A : Option Addr} {n : Nat} {l : List α} (h : SL enc k w A n l) (hk : ∀ g, rowOf A = some g → w'.heap[g]? = w.heap[g]?) : SL enc k w' A n l := by
  refine ⟨h.1, fun hn => ?_⟩
  obtain ⟨b, o, e, hl, hc⟩ := h.2 hn
  have hb := hk b (by rw [e]; rfl)
  have hl' : b < w'.heap.size := by
    rcases Nat.lt_or_ge b w'.heap.size with q | q
    · exact q
    · rw [Array.getElem?_eq_none q, Array.getElem?_eq_getElem hl] at hb; cases hb
  exact ⟨b, o, e, hl', fun i x hx j u hu => (World.cell?_of_block (w := w) (a := ⟨b, _, none⟩) hb).trans (hc i x hx j u hu)⟩
attribute [local go_sem ↓] hideAppend
set_option maxHeartbeats 16000000 in
theorem rtake_no {base D c : Nat} {size : Int} {A : Option Addr} {P : List En} {w : World} (h : TabR base D size A c P w) (a b : ByteArray) (ha : a.size ≤ 140737488355328) (hbs : b.size ≤ 140737488355328) (hok : okG (a, b) = false) :
    Calls Tryd.prog 14 #[.pointer (some ⟨D, 0, none⟩), .agg #[.string a, .string b]] w fun e w' => e = .returned (.tuple #[.slice none 0 0, .int .i64 2]) ∧ Below w.heap.size w w' := by
  have hv := fun W => rvalid_any a b ha hbs W
  rw [hok] at hv
  have kb := Lib.hid ((Below.refl w.heap.size w).alloc (Nat.le_refl _) (.cells #[.string a, .string b] 25))
  clear h
  go_enter Tryd.func14, Tryd.ntmps14
  go_wp2_with (fail)
  refine (hv _).mono ?_
  rintro e w2 ⟨rfl, b2⟩
  have K2 := Lib.hid (kb.out.trans (b2.mono kb.out.size))
  clear hv b2 kb
  go_wp2_with (fail)
  refine bodyPost_ret (results_tmp2 rfl _ _ _) rfl ?_
  exact ⟨rfl, K2.out⟩
set_option maxHeartbeats 16000000 in
theorem rtake_yes {base D c : Nat} {size : Int} {A : Option Addr} {P : List En} {w : World} (h : TabR base D size A c P w) (hb : base ≤ w.heap.size) (a b : ByteArray) (ha : a.size ≤ 140737488355328) (hbs : b.size ≤ 140737488355328) (hok : okG (a, b) = true) :
    Calls Tryd.prog 14 #[.pointer (some ⟨D, 0, none⟩), .agg #[.string a, .string b]] w fun e w' => ∃ B m d A' c', e = .returned (.tuple #[.slice B m d, .int .i64 0]) ∧ ES w' B m (srtE ((P.filter fun x => inG (a, b) x.k).map En.e)) ∧ TabR base D size A' c' (P.filter fun x => !inG (a, b) x.k) w' ∧ Chg (fun k => k = D ∨ rowOf A = some k) w w' := by
  have hv := fun W => rvalid_any a b ha hbs W
  rw [hok] at hv
  have hln : P.length ≤ 2048 := by have := h.le; have := h.sz; omega
  have hDl := h.lt
  have kb := (Below.refl w.heap.size w).alloc (Nat.le_refl _) (.cells #[.string a, .string b] 25)
  have hg := hpNew w (.cells #[.string a, .string b] 25)
  have hT := h.below kb
  obtain ⟨W0, hW0⟩ : ∃ x, x = w.alloc (.cells #[.string a, .string b] 25) := ⟨_, rfl⟩
  rw [← hW0] at kb hg hT
  have hs0 : W0.heap.size = w.heap.size + 1 := by rw [hW0]; simp
  replace kb := Lib.hid kb; replace hg := Lib.hid hg; replace hT := Lib.hid hT; replace h := Lib.hid h; replace hs0 := Lib.hid hs0; replace hDl := Lib.hid hDl
  clear hok
  go_enter Tryd.func14, Tryd.ntmps14
  go_wp2_with (fail)
  rw [← hW0]
  replace hW0 := Lib.hid hW0
  refine (hv _).mono ?_
  rintro e w2 ⟨rfl, b2⟩
  replace b2 := Lib.hid b2
  clear hv
  go_wp2_with (fail)
  obtain ⟨Bx, hBx⟩ : ∃ x, x = w.heap.size := ⟨_, rfl⟩
  rw [← hBx] at hg ⊢
  replace hBx := Lib.hid hBx
  go_loopw [6, 7, 8] (fun v6 v7 i wr => ∃ (k : Nat) (A1 : Option Addr) (n1 c1 : Nat) (A2 : Option Addr) (n2 c2 : Nat), v6 = .slice A1 n1 c1 ∧ v7 = .slice A2 n2 c2 ∧ i = .int .i64 k ∧ k ≤ P.length ∧ n1 ≤ k ∧ n2 ≤ k ∧ OwnR W0 A1 n1 c1 ((P.take k).filter fun x => inG (a, b) x.k) wr ∧ OwnR W0 A2 n2 c2 ((P.take k).filter fun x => !inG (a, b) x.k) wr ∧ (∀ g, rowOf A1 = some g → rowOf A2 ≠ some g)) (fun _ _ i _ => P.length - (intOf i).toNat)
  case atStart => exact ⟨0, none, 0, 0, none, 0, 0, rfl, rfl, rfl, by omega, by omega, by omega, OwnR.nil W0 _ b2.out, OwnR.nil W0 _ b2.out, fun g hg => by cases hg⟩
  case round =>
    clear b2
    revert wr
    intro W1 hrel
    obtain ⟨k, A1, n1, c1, A2, n2, c2, rfl, rfl, rfl, hk, hk1, hk2, hO1, hO2, hne⟩ := hrel
    have T1 := hT.out.below hO1.bel
    have t1 := blkC T1.blk 1
    simp only [List.getElem?_toArray, List.getElem?_cons_zero, List.getElem?_cons_succ] at t1
    by_cases hlt : k < P.length
    · obtain ⟨xb, xo, x, rfl, hxl, hx, hcell⟩ := T1.rs.at_ hlt
      have f1 := filter_more (f := fun x => inG (a, b) x.k) hx
      have f2 := filter_more (f := fun x => !inG (a, b) x.k) hx
      have C0 := hcell 0 _ rfl; have C1 := hcell 1 _ rfl; have C2 := hcell 2 _ rfl; have C3 := hcell 3 _ rfl; have C4 := hcell 4 _ rfl; have C5 := hcell 5 _ rfl; have C6 := hcell 6 _ rfl
      rw [Nat.add_zero] at C0
      have j0 : (0 : Int) ≤ k := by omega
      have j1 : (k : Int) < P.length := by omega
      have bb := (Below.refl _ W1).alloc (Nat.le_refl _) (.cells #[.int .i64 x.e.1, .int .i64 x.e.2.1, .int .i64 x.e.2.2, .string x.k, .int .i64 x.r.1, .int .i64 x.r.2.1, .string x.r.2.2] 94)
      have hbx := hpNew W1 (.cells #[.int .i64 x.e.1, .int .i64 x.e.2.1, .int .i64 x.e.2.2, .string x.k, .int .i64 x.r.1, .int .i64 x.r.2.1, .string x.r.2.2] 94)
      have hg1 := ((hO1.bel.trans (bb.mono hO1.bel.size)).block _ (blkX hg.out)).trans hg.out
      have g0 := blkC hg1 0; have g1 := blkC hg1 1
      have z0 := blkC hbx 0; have z1 := blkC hbx 1; have z2 := blkC hbx 2; have z3 := blkC hbx 3; have z4 := blkC hbx 4; have z5 := blkC hbx 5; have z6 := blkC hbx 6
      simp only [List.getElem?_toArray, List.getElem?_cons_zero, List.getElem?_cons_succ] at g0 g1 z0 z1 z2 z3 z4 z5 z6
      have hO1' := hO1.below bb
      have hO2' := hO2.below bb
      have hin : inG (a, b) x.k = (!(Op.bytesLess x.k.toList a.toList) && (decide (b.toList = []) || Op.bytesLess x.k.toList b.toList)) := by
        show (!(Op.bytesLess x.k.toList a.toList) && (decide (b = noText) || Op.bytesLess x.k.toList b.toList)) = _
        rw [show decide (b = noText) = decide (b.toList = []) from decide_eq_decide.2 tl_nil.symm]
      replace T1 := Lib.hid T1; replace hx := Lib.hid hx; replace hbx := Lib.hid hbx; replace hg1 := Lib.hid hg1; replace hO1 := Lib.hid hO1; replace hO2 := Lib.hid hO2; replace hne := Lib.hid hne
      clear hcell
      cases h1 : Op.bytesLess x.k.toList a.toList with
      | true =>
        rw [h1] at hin
        have hin2 : inG (a, b) x.k = false := by rw [hin]; simp [*]
        rw [hin2] at f1 f2
        simp only [if_true, Bool.not_true, Bool.not_false, Bool.false_eq_true, if_false] at f1 f2
        obtain ⟨A3, c3, V, hrun, hO3, hgr, hat⟩ := hO2'.push (by omega) x
        have bb2 := (Below.refl _ (W1.alloc (.cells #[.int .i64 x.e.1, .int .i64 x.e.2.1, .int .i64 x.e.2.2, .string x.k, .int .i64 x.r.1, .int .i64 x.r.2.1, .string x.r.2.2] 94))).alloc (Nat.le_refl _) (.cells #[.int .i64 x.e.1, .int .i64 x.e.2.1, .int .i64 x.e.2.2, .string x.k, .int .i64 x.r.1, .int .i64 x.r.2.1, .string x.r.2.2] 94)
        have hO4 := (hO1'.below bb2).grown hgr (fun g hg => (hO2.out.rowLt g hg).1) (fun g h5 q => hne.out g h5 q)
        rw [show (W1.alloc (.cells #[.int .i64 x.e.1, .int .i64 x.e.2.1, .int .i64 x.e.2.2, .string x.k, .int .i64 x.r.1, .int .i64 x.r.2.1, .string x.r.2.2] 94)).heap.size = W1.heap.size + 1 from by simp] at hrun
        have hne2 : ∀ g, rowOf A1 = some g → rowOf A3 ≠ some g := by
          intro g h5 h6
          rcases hat g h6 with q | q
          · exact hne.out g h5 q
          · have := (hO1'.rowLt g h5).2
            omega
        replace hO3 := Lib.hid hO3; replace hO4 := Lib.hid hO4; replace hgr := Lib.hid hgr; replace hat := Lib.hid hat; replace hne2 := Lib.hid hne2; replace f1 := Lib.hid f1; replace f2 := Lib.hid f2; replace bb := Lib.hid bb; replace bb2 := Lib.hid bb2; replace hO1' := Lib.hid hO1'; replace hO2' := Lib.hid hO2'; replace hin := Lib.hid hin; replace hin2 := Lib.hid hin2
        go_wp2_with (fail)
        exact ⟨⟨k + 1, A1, n1, c1, A3, n2 + 1, c3, rfl, rfl, by go_num, by omega, by omega, by omega, by rw [f1.out]; exact hO4.out, by rw [f2.out]; exact hO3.out, hne2.out⟩, by simp [intOf]; omega⟩
      | false =>
        by_cases h3 : b.toList = []
        · rw [h1] at hin
          have hin2 : inG (a, b) x.k = true := by rw [hin]; simp [*]
          rw [hin2] at f1 f2
          simp only [if_true, Bool.not_true, Bool.not_false, Bool.false_eq_true, if_false] at f1 f2
          obtain ⟨A3, c3, V, hrun, hO3, hgr, hat⟩ := hO1'.push (by omega) x
          have bb2 := (Below.refl _ (W1.alloc (.cells #[.int .i64 x.e.1, .int .i64 x.e.2.1, .int .i64 x.e.2.2, .string x.k, .int .i64 x.r.1, .int .i64 x.r.2.1, .string x.r.2.2] 94))).alloc (Nat.le_refl _) (.cells #[.int .i64 x.e.1, .int .i64 x.e.2.1, .int .i64 x.e.2.2, .string x.k, .int .i64 x.r.1, .int .i64 x.r.2.1, .string x.r.2.2] 94)
          have hO4 := (hO2'.below bb2).grown hgr (fun g hg => (hO1.out.rowLt g hg).1) (fun g h5 q => hne.out g q h5)
          rw [show (W1.alloc (.cells #[.int .i64 x.e.1, .int .i64 x.e.2.1, .int .i64 x.e.2.2, .string x.k, .int .i64 x.r.1, .int .i64 x.r.2.1, .string x.r.2.2] 94)).heap.size = W1.heap.size + 1 from by simp] at hrun
          have hne2 : ∀ g, rowOf A3 = some g → rowOf A2 ≠ some g := by
            intro g h5 h6
            rcases hat g h5 with q | q
            · exact hne.out g q h6
            · have := (hO2'.rowLt g h6).2
              omega
          replace hO3 := Lib.hid hO3; replace hO4 := Lib.hid hO4; replace hgr := Lib.hid hgr; replace hat := Lib.hid hat; replace hne2 := Lib.hid hne2; replace f1 := Lib.hid f1; replace f2 := Lib.hid f2; replace bb := Lib.hid bb; replace bb2 := Lib.hid bb2; replace hO1' := Lib.hid hO1'; replace hO2' := Lib.hid hO2'; replace hin := Lib.hid hin; replace hin2 := Lib.hid hin2
          go_wp2_with (fail)
          exact ⟨⟨k + 1, A3, n1 + 1, c3, A2, n2, c2, rfl, rfl, by go_num, by omega, by omega, by omega, by rw [f1.out]; exact hO3.out, by rw [f2.out]; exact hO4.out, hne2.out⟩, by simp [intOf]; omega⟩
        · have h3' : b.toList.isEmpty = false := by simpa using h3
          cases h2 : Op.bytesLess x.k.toList b.toList with
          | true =>
            rw [h1, h2] at hin
            have hin2 : inG (a, b) x.k = true := by rw [hin]; simp [*]
            rw [hin2] at f1 f2
            simp only [if_true, Bool.not_true, Bool.not_false, Bool.false_eq_true, if_false] at f1 f2
            obtain ⟨A3, c3, V, hrun, hO3, hgr, hat⟩ := hO1'.push (by omega) x
            have bb2 := (Below.refl _ (W1.alloc (.cells #[.int .i64 x.e.1, .int .i64 x.e.2.1, .int .i64 x.e.2.2, .string x.k, .int .i64 x.r.1, .int .i64 x.r.2.1, .string x.r.2.2] 94))).alloc (Nat.le_refl _) (.cells #[.int .i64 x.e.1, .int .i64 x.e.2.1, .int .i64 x.e.2.2, .string x.k, .int .i64 x.r.1, .int .i64 x.r.2.1, .string x.r.2.2] 94)
            have hO4 := (hO2'.below bb2).grown hgr (fun g hg => (hO1.out.rowLt g hg).1) (fun g h5 q => hne.out g q h5)
            rw [show (W1.alloc (.cells #[.int .i64 x.e.1, .int .i64 x.e.2.1, .int .i64 x.e.2.2, .string x.k, .int .i64 x.r.1, .int .i64 x.r.2.1, .string x.r.2.2] 94)).heap.size = W1.heap.size + 1 from by simp] at hrun
            have hne2 : ∀ g, rowOf A3 = some g → rowOf A2 ≠ some g := by
              intro g h5 h6
              rcases hat g h5 with q | q
              · exact hne.out g q h6
              · have := (hO2'.rowLt g h6).2
                omega
            replace hO3 := Lib.hid hO3; replace hO4 := Lib.hid hO4; replace hgr := Lib.hid hgr; replace hat := Lib.hid hat; replace hne2 := Lib.hid hne2; replace f1 := Lib.hid f1; replace f2 := Lib.hid f2; replace bb := Lib.hid bb; replace bb2 := Lib.hid bb2; replace hO1' := Lib.hid hO1'; replace hO2' := Lib.hid hO2'; replace hin := Lib.hid hin; replace hin2 := Lib.hid hin2
            go_wp2_with (fail)
            exact ⟨⟨k + 1, A3, n1 + 1, c3, A2, n2, c2, rfl, rfl, by go_num, by omega, by omega, by omega, by rw [f1.out]; exact hO3.out, by rw [f2.out]; exact hO4.out, hne2.out⟩, by simp [intOf]; omega⟩
          | false =>
            rw [h1, h2] at hin
            have hin2 : inG (a, b) x.k = false := by rw [hin]; simp [*]
            rw [hin2] at f1 f2
            simp only [if_true, Bool.not_true, Bool.not_false, Bool.false_eq_true, if_false] at f1 f2
            obtain ⟨A3, c3, V, hrun, hO3, hgr, hat⟩ := hO2'.push (by omega) x
            have bb2 := (Below.refl _ (W1.alloc (.cells #[.int .i64 x.e.1, .int .i64 x.e.2.1, .int .i64 x.e.2.2, .string x.k, .int .i64 x.r.1, .int .i64 x.r.2.1, .string x.r.2.2] 94))).alloc (Nat.le_refl _) (.cells #[.int .i64 x.e.1, .int .i64 x.e.2.1, .int .i64 x.e.2.2, .string x.k, .int .i64 x.r.1, .int .i64 x.r.2.1, .string x.r.2.2] 94)
            have hO4 := (hO1'.below bb2).grown hgr (fun g hg => (hO2.out.rowLt g hg).1) (fun g h5 q => hne.out g h5 q)
            rw [show (W1.alloc (.cells #[.int .i64 x.e.1, .int .i64 x.e.2.1, .int .i64 x.e.2.2, .string x.k, .int .i64 x.r.1, .int .i64 x.r.2.1, .string x.r.2.2] 94)).heap.size = W1.heap.size + 1 from by simp] at hrun
            have hne2 : ∀ g, rowOf A1 = some g → rowOf A3 ≠ some g := by
              intro g h5 h6
              rcases hat g h6 with q | q
              · exact hne.out g h5 q
              · have := (hO1'.rowLt g h5).2
                omega
            replace hO3 := Lib.hid hO3; replace hO4 := Lib.hid hO4; replace hgr := Lib.hid hgr; replace hat := Lib.hid hat; replace hne2 := Lib.hid hne2; replace f1 := Lib.hid f1; replace f2 := Lib.hid f2; replace bb := Lib.hid bb; replace bb2 := Lib.hid bb2; replace hO1' := Lib.hid hO1'; replace hO2' := Lib.hid hO2'; replace hin := Lib.hid hin; replace hin2 := Lib.hid hin2
            go_wp2_with (fail)
            exact ⟨⟨k + 1, A1, n1, c1, A3, n2 + 1, c3, rfl, rfl, by go_num, by omega, by omega, by omega, by rw [f1.out]; exact hO4.out, by rw [f2.out]; exact hO3.out, hne2.out⟩, by simp [intOf]; omega⟩
    · obtain rfl : k = P.length := by omega
      rw [List.take_of_length_le (by omega)] at hO1 hO2
      have hDblk := T1.blk
      have f1 := blkF hDblk
      have dD1 := blkC hDblk 1
      skip
      have hDW : D < W0.heap.size := by rw [hs0.out]; have := hDl.out; omega
      obtain ⟨V, hV⟩ : ∃ V, V = W1.setCell ⟨D, 1, none⟩ (.slice A2 n2 c2) := ⟨_, rfl⟩
      have hVk : ∀ g, W0.heap.size ≤ g → V.heap[g]? = W1.heap[g]? := fun g hg => by rw [hV]; exact hpFar (by show _ ≠ D; omega)
      have hVs : V.heap.size = W1.heap.size := by rw [hV]; simp [World.setCell]
      have hRS : RS V A1 n1 (P.filter fun x => inG (a, b) x.k) := SL.rows' hO1.rs fun g hg => hVk g (hO1.rowLt g hg).1
      have hTV : TabR base D size A2 c2 (P.filter fun x => !inG (a, b) x.k) V := by
        have hl2 := hO2.len
        refine ⟨T1.ge, ?_, ?_, ?_, T1.sz⟩
        · rw [hV, hl2]
          have := hpSet (i := 1) (v := .slice A2 n2 c2) hDblk
          simpa using this
        · rw [hl2]
          have hw := ownsRow_re hO2.own (Nat.le_trans hb kb.out.size)
          rcases hw.2 with e | ⟨g, cp, cur, e1, e2, hh, r⟩
          · exact ⟨hw.1, .inl e⟩
          · exact ⟨hw.1, .inr ⟨g, cp, cur, e1, e2, (hVk g (hO2.rowLt g (by injection e1 with e1; rw [e1]; rfl)).1).trans hh, r⟩⟩
        · have := T1.le; have := List.length_filter_le (fun x => !inG (a, b) x.k) P; omega
      have hcg : Chg (fun k => k = D ∨ rowOf A = some k) w V := by
        rw [hV]
        exact Chg.setCell (Chg.of_below (kb.out.trans (hO1.bel.mono kb.out.size)) _) (fun _ => .inl rfl) _
      have hsr := sorted_any (cB := c1) V hRS (by omega)
      replace T1 := Lib.hid T1; replace hO1 := Lib.hid hO1; replace hO2 := Lib.hid hO2; replace hne := Lib.hid hne; replace hDblk := Lib.hid hDblk; replace hRS := Lib.hid hRS; replace hTV := Lib.hid hTV; replace hcg := Lib.hid hcg; replace hVs := Lib.hid hVs; replace hVk := Lib.hid hVk; replace hDW := Lib.hid hDW
      clear hlt hk
      go_wp2_with (fail)
      rw [← hV]
      replace hV := Lib.hid hV
      refine hsr.mono ?_
      rintro e w3 ⟨A5, c5, rfl, hO5⟩
      replace hO5 := Lib.hid hO5
      clear hsr
      go_wp2_with (fail)
      refine bodyPost_ret (results_tmp2 rfl _ _ _) rfl ?_
      have hb5 := hO5.out.bel
      exact ⟨A5, n1, c5, A2, c2, rfl, hO5.out.es, hTV.out.below hb5, hcg.out.thenB hb5⟩
theorem rtake_any {base D c : Nat} {size : Int} {A : Option Addr} {P : List En} {w : World} (h : TabR base D size A c P w) (hb : base ≤ w.heap.size) (a b : ByteArray) (ha : a.size ≤ 140737488355328) (hbs : b.size ≤ 140737488355328) :
    Calls Tryd.prog 14 #[.pointer (some ⟨D, 0, none⟩), .agg #[.string a, .string b]] w fun e w' => ∃ B m d A' c', e = .returned (.tuple #[.slice B m d, .int .i64 (takeC (a, b))]) ∧ ES w' B m (takeRO (a, b) P) ∧ TabR base D size A' c' (takeL (a, b) P) w' ∧ Chg (fun k => k = D ∨ rowOf A = some k) w w' := by
  cases hok : okG (a, b) with
  | true =>
    unfold takeC takeRO takeL
    rw [if_pos hok, if_pos hok, if_pos hok]
    exact rtake_yes h hb a b ha hbs hok
  | false =>
    unfold takeC takeRO takeL
    rw [if_neg (by rw [hok]; decide), if_neg (by rw [hok]; decide), if_neg (by rw [hok]; decide)]
    refine (rtake_no h a b ha hbs hok).mono ?_
    rintro e w' ⟨rfl, hb2⟩
    exact ⟨none, 0, 0, A, c, rfl, SL.nil _ _, h.below hb2, Chg.of_below hb2 _⟩
end Go.Proofs.YtkdfhackpmdgfaaDoor
