/- Ranges: whether one is valid. -/
import Derived.Test.YtkdfhackpmdgfaaGreatDoorDedQ
import Derived.Test.YtkdfhackpmdgfaaGreatDoorNm
namespace Go.Proofs.YtkdfhackpmdgfaaGreatDoor
open Go.RowKit Go.Shelf
set_option linter.unusedSimpArgs false
set_option linter.unusedVariables false
set_option linter.unusedSectionVars false
set_option maxRecDepth 10000
theorem tl_eq (a b : ByteArray) : (a.toList == b.toList) = decide (a = b) := by
  rw [Bool.eq_iff_iff, beq_iff_eq, decide_eq_true_eq]
  exact ⟨fun h => tl_inj h, fun h => by rw [h]⟩
theorem tl_nil {a : ByteArray} : a.toList = [] ↔ a = noText := by
  constructor
  · intro h; exact tl_inj (h.trans (by rw [ByteArray.toList_eq]; rfl))
  · rintro rfl; rw [ByteArray.toList_eq]; rfl
theorem tl_emp (a : ByteArray) : a.toList.isEmpty = decide (a = noText) := by
  rw [Bool.eq_iff_iff, List.isEmpty_iff, decide_eq_true_eq, tl_nil]
theorem isNaNs_any (a : ByteArray) (w : World) : Calls Tryz.prog 101 #[.string a] w fun e w' => e = .returned (.bool false) ∧ w' = w := by
  go_enter Tryz.func101, Tryz.ntmps101
  go_wp2
  go_ret
  exact ⟨by simp, rfl⟩
def cmpS (a b : ByteArray) : Int := if lessB a b then -1 else if a = b then 0 else 1
theorem cmpS_any (a b : ByteArray) (w : World) : Calls Tryz.prog 82 #[.string a, .string b] w fun e w' => e = .returned (.int .i64 (cmpS a b)) ∧ w' = w := by
  have hn := fun x W => isNaNs_any x W
  have hq := tl_eq a b
  by_cases h1 : lessB a b = true
  · have hf : cmpS a b = -1 := by unfold cmpS; rw [if_pos h1]
    rw [hf]
    have h1' : Op.bytesLess a.toList b.toList = true := h1
    replace h1 := Lib.hid h1; replace hf := Lib.hid hf; replace hq := Lib.hid hq
    go_enter Tryz.func82, Tryz.ntmps82
    go_wp2_with (fail)
    refine (hn _ _).mono ?_
    rintro e w1 ⟨rfl, rfl⟩
    go_wp2_with (fail)
    refine (hn _ _).mono ?_
    rintro e w1 ⟨rfl, rfl⟩
    go_wp2_with (fail)
    go_ret
    exact ⟨rfl, rfl⟩
  · have h1' : Op.bytesLess a.toList b.toList = false := by simpa [lessB] using h1
    by_cases h2 : a = b
    · have hf : cmpS a b = 0 := by unfold cmpS; rw [if_neg h1, if_pos h2]
      rw [hf]
      rw [decide_eq_true h2] at hq
      replace h1 := Lib.hid h1; replace hf := Lib.hid hf; replace h2 := Lib.hid h2
      go_enter Tryz.func82, Tryz.ntmps82
      go_wp2_with (fail)
      refine (hn _ _).mono ?_
      rintro e w1 ⟨rfl, rfl⟩
      go_wp2_with (fail)
      refine (hn _ _).mono ?_
      rintro e w1 ⟨rfl, rfl⟩
      go_wp2_with (fail)
      go_ret
      exact ⟨rfl, rfl⟩
    · have hf : cmpS a b = 1 := by unfold cmpS; rw [if_neg h1, if_neg h2]
      rw [hf]
      rw [decide_eq_false h2] at hq
      replace h1 := Lib.hid h1; replace hf := Lib.hid hf; replace h2 := Lib.hid h2
      go_enter Tryz.func82, Tryz.ntmps82
      go_wp2_with (fail)
      refine (hn _ _).mono ?_
      rintro e w1 ⟨rfl, rfl⟩
      go_wp2_with (fail)
      refine (hn _ _).mono ?_
      rintro e w1 ⟨rfl, rfl⟩
      go_wp2_with (fail)
      go_ret
      exact ⟨rfl, rfl⟩
/-- How ends of ranges are compared. -/
def cmpX (a b : ByteArray) : Int := if a = b then 0 else if a = noText then 1 else if b = noText then -1 else cmpS a b
theorem ends1_any (a b : ByteArray) (w : World) : Calls Tryz.prog 81 #[.string a, .string b] w fun e w' => e = .returned (.int .i64 (cmpX a b)) ∧ w' = w := by
  have hc := cmpS_any a b w
  have hq := tl_eq a b
  have ha := tl_emp a
  have hb := tl_emp b
  by_cases h1 : a = b
  · have hf : cmpX a b = 0 := by unfold cmpX; rw [if_pos h1]
    rw [hf]
    rw [decide_eq_true h1] at hq
    replace h1 := Lib.hid h1; replace hf := Lib.hid hf; replace ha := Lib.hid ha; replace hb := Lib.hid hb
    go_enter Tryz.func81, Tryz.ntmps81
    go_wp2_with (fail)
    go_ret
    exact ⟨rfl, rfl⟩
  · rw [decide_eq_false h1] at hq
    by_cases h2 : a = noText
    · have hf : cmpX a b = 1 := by unfold cmpX; rw [if_neg h1, if_pos h2]
      rw [hf]
      rw [decide_eq_true h2] at ha
      have h6 : ([] == b.toList) = false := by rw [← hq, tl_nil.2 h2]
      have h3 := tl_nil.2 h2
      replace h1 := Lib.hid h1; replace hf := Lib.hid hf; replace h2 := Lib.hid h2; replace hb := Lib.hid hb
      go_enter Tryz.func81, Tryz.ntmps81
      go_wp2_with (fail)
      go_ret
      exact ⟨rfl, rfl⟩
    · rw [decide_eq_false h2] at ha
      have h3 : ¬ a.toList = [] := fun q => h2 (tl_nil.1 q)
      by_cases h4 : b = noText
      · have hf : cmpX a b = -1 := by unfold cmpX; rw [if_neg h1, if_neg h2, if_pos h4]
        rw [hf]
        rw [decide_eq_true h4] at hb
        have h5 := tl_nil.2 h4
        replace h1 := Lib.hid h1; replace hf := Lib.hid hf; replace h2 := Lib.hid h2; replace h4 := Lib.hid h4
        go_enter Tryz.func81, Tryz.ntmps81
        go_wp2_with (fail)
        go_ret
        exact ⟨rfl, rfl⟩
      · have hf : cmpX a b = cmpS a b := by unfold cmpX; rw [if_neg h1, if_neg h2, if_neg h4]
        rw [hf]
        rw [decide_eq_false h4] at hb
        have h5 : ¬ b.toList = [] := fun q => h4 (tl_nil.1 q)
        replace h1 := Lib.hid h1; replace hf := Lib.hid hf; replace h2 := Lib.hid h2; replace h4 := Lib.hid h4
        go_enter Tryz.func81, Tryz.ntmps81
        go_wp2_with (fail)
        refine hc.mono ?_
        rintro e w1 ⟨rfl, rfl⟩
        go_wp2_with (fail)
        go_ret
        exact ⟨rfl, rfl⟩

theorem takeC_ok {g : Rg} (h : okG g = true) : takeC g = 0 := by unfold takeC; rw [if_pos h]
theorem takeC_bad {g : Rg} (h : okG g = false) : takeC g = 2 := by unfold takeC; rw [if_neg (by rw [h]; simp)]
set_option maxHeartbeats 8000000 in
theorem rng_any (a b : ByteArray) (w : World) (ha : a.size ≤ 140737488355328) (hb : b.size ≤ 140737488355328) : Calls Tryz.prog 25 #[.agg #[.string a, .string b]] w fun e w' => e = .returned (.int .i64 (takeC (a, b))) ∧ Below w.heap.size w w' := by
  have hna := fun W => name_any a ha W
  have hnb := fun W => name_any b hb W
  have kb := (Below.refl w.heap.size w).alloc (Nat.le_refl _) (.cells #[.string a, .string b] 31)
  obtain ⟨W0, hW0⟩ : ∃ W0, W0 = (w.alloc (.cells #[.string a, .string b] 31)).alloc (.cells #[.string a, .string b] 9) := ⟨_, rfl⟩
  have b0 : W0.heap[w.heap.size]? = some (.cells #[.string a, .string b] 31 (0, 0)) := by rw [hW0, hpOld _ (by simp)]; exact hpNew w _
  have b1 : W0.heap[w.heap.size + 1]? = some (.cells #[.string a, .string b] 9 (0, 0)) := by
    have := hpNew (w.alloc (.cells #[.string a, .string b] 31)) (.cells #[.string a, .string b] 9)
    rw [hW0]; simpa using this
  have k0 : Below w.heap.size w W0 := by rw [hW0]; exact kb.alloc kb.size _
  replace kb := Lib.hid kb; replace b0 := Lib.hid b0; replace b1 := Lib.hid b1; replace k0 := Lib.hid k0; replace hW0 := Lib.hid hW0
  have hok : okG (a, b) = (endB a && endB b && (decide (b = noText) || lessB a b)) := rfl
  have hbad := Lib.hid (fun q => takeC_bad (g := (a, b)) q)
  have hgood := Lib.hid (fun q => takeC_ok (g := (a, b)) q)
  replace hok := Lib.hid hok
  go_enter Tryz.func25, Tryz.ntmps25
  go_wp2_with (fail)
  go_loopw [11] (fun i wr => ∃ k : Nat, k ≤ 2 ∧ i = .int .i64 k ∧ (1 ≤ k → endB a = true) ∧ (2 ≤ k → endB b = true) ∧ Below W0.heap.size W0 wr) (fun i _ => 2 - (intOf i).toNat)
  case atStart => exact ⟨0, by omega, rfl, by omega, by omega, by rw [hW0.out]; exact Below.refl _ _⟩
  case round =>
    revert wr
    intro W1 hrel
    obtain ⟨k, hk, rfl, hea, heb, hbel⟩ := hrel
    have hh0 := (hbel.block _ (blkX b0.out)).trans b0.out
    have hh1 := (hbel.block _ (blkX b1.out)).trans b1.out
    have s0 := blkC hh1 0; have s1 := blkC hh1 1
    have r0 := blkC hh0 0; have r1 := blkC hh0 1
    simp only [List.getElem?_toArray, List.getElem?_cons_zero, List.getElem?_cons_succ] at s0 s1 r0 r1
    have hbb := Lib.hid (k0.out.trans (hbel.mono k0.out.size))
    replace hh0 := Lib.hid hh0; replace hh1 := Lib.hid hh1; replace hbel := Lib.hid hbel
    rcases (by omega : k = 0 ∨ k = 1 ∨ k = 2) with rfl | rfl | rfl
    · clear hea heb
      have he := tl_emp a
      by_cases h1 : a = noText
      · rw [decide_eq_true h1] at he
        have h3 := tl_nil.2 h1
        have hE : endB a = true := by unfold endB; rw [decide_eq_true h1]; rfl
        replace h1 := Lib.hid h1; replace hE := Lib.hid hE
        go_wp2_with (fail)
        exact ⟨⟨1, by omega, by go_num, fun _ => hE.out, by omega, hbel.out⟩, by simp [intOf]⟩
      · rw [decide_eq_false h1] at he
        have h3 : ¬ a.toList = [] := fun q => h1 (tl_nil.1 q)
        cases hN : nameB a with
        | true =>
          simp only [hN] at hna
          have hE : endB a = true := by unfold endB; rw [hN]; simp
          replace h1 := Lib.hid h1; replace hE := Lib.hid hE; replace hN := Lib.hid hN
          go_wp2_with (fail)
          refine (hna _).mono ?_
          rintro e w2 ⟨rfl, b2⟩
          have hb2 := Lib.hid (hbel.out.trans (b2.mono hbel.out.size))
          clear b2 s0 s1 r0 r1
          go_wp2_with (fail)
          exact ⟨⟨1, by omega, by go_num, fun _ => hE.out, by omega, hb2.out⟩, by simp [intOf]⟩
        | false =>
          simp only [hN] at hna
          have hf := Lib.hid (hbad.out (by rw [hok.out]; simp [endB, h1, hN]))
          replace h1 := Lib.hid h1; replace hN := Lib.hid hN
          go_wp2_with (fail)
          refine (hna _).mono ?_
          rintro e w2 ⟨rfl, b2⟩
          have hb2 := Lib.hid (hbb.out.trans (b2.mono hbb.out.size))
          clear b2 s0 s1 r0 r1
          go_wp2_with (fail)
          go_ret
          exact ⟨by rw [hf.out]; rfl, hb2.out⟩
    · have hea := Lib.hid (hea (by omega))
      clear heb
      have he := tl_emp b
      by_cases h1 : b = noText
      · rw [decide_eq_true h1] at he
        have h3 := tl_nil.2 h1
        have hE : endB b = true := by unfold endB; rw [decide_eq_true h1]; rfl
        replace h1 := Lib.hid h1; replace hE := Lib.hid hE
        go_wp2_with (fail)
        exact ⟨⟨2, by omega, by go_num, fun _ => hea.out, fun _ => hE.out, hbel.out⟩, by simp [intOf]⟩
      · rw [decide_eq_false h1] at he
        have h3 : ¬ b.toList = [] := fun q => h1 (tl_nil.1 q)
        cases hN : nameB b with
        | true =>
          simp only [hN] at hnb
          have hE : endB b = true := by unfold endB; rw [hN]; simp
          replace h1 := Lib.hid h1; replace hE := Lib.hid hE; replace hN := Lib.hid hN
          go_wp2_with (fail)
          refine (hnb _).mono ?_
          rintro e w2 ⟨rfl, b2⟩
          have hb2 := Lib.hid (hbel.out.trans (b2.mono hbel.out.size))
          clear b2 s0 s1 r0 r1
          go_wp2_with (fail)
          exact ⟨⟨2, by omega, by go_num, fun _ => hea.out, fun _ => hE.out, hb2.out⟩, by simp [intOf]⟩
        | false =>
          simp only [hN] at hnb
          have hf := Lib.hid (hbad.out (by rw [hok.out]; simp [endB, h1, hN]))
          replace h1 := Lib.hid h1; replace hN := Lib.hid hN
          go_wp2_with (fail)
          refine (hnb _).mono ?_
          rintro e w2 ⟨rfl, b2⟩
          have hb2 := Lib.hid (hbb.out.trans (b2.mono hbb.out.size))
          clear b2 s0 s1 r0 r1
          go_wp2_with (fail)
          go_ret
          exact ⟨by rw [hf.out]; rfl, hb2.out⟩
    · have hea := hea (by omega)
      have heb := heb (by omega)
      have hq := tl_eq b a
      have he := tl_emp b
      by_cases h1 : b = noText
      · have hf := Lib.hid (hgood.out (by rw [hok.out, hea, heb, decide_eq_true h1]; rfl))
        rw [decide_eq_true h1] at he
        have h3 := tl_nil.2 h1
        replace h1 := Lib.hid h1; replace hq := Lib.hid hq; replace hea := Lib.hid hea; replace heb := Lib.hid heb
        clear hna hnb
        go_wp2_with (fail)
        go_ret
        exact ⟨by rw [hf.out]; rfl, hbb.out⟩
      · rw [decide_eq_false h1] at he
        have h3 : ¬ b.toList = [] := fun q => h1 (tl_nil.1 q)
        have hln := less_not (a := a) (b := b)
        have hbq : Op.bytesLess b.toList a.toList = lessB b a := rfl
        by_cases h2 : lessB a b = true
        · have hf := Lib.hid (hgood.out (by rw [hok.out, hea, heb, h2]; simp))
          rw [h2] at hln
          have hx : lessB b a = false ∧ ¬ a = b := by simpa using hln.symm
          rw [hx.1] at hbq
          rw [decide_eq_false (fun q => hx.2 q.symm)] at hq
          replace h1 := Lib.hid h1; replace h2 := Lib.hid h2; replace hea := Lib.hid hea; replace heb := Lib.hid heb; replace hln := Lib.hid hln; replace hx := Lib.hid hx
          clear hna hnb
          go_wp2_with (fail)
          go_ret
          exact ⟨by rw [hf.out]; rfl, hbb.out⟩
        · have h2' : lessB a b = false := by simpa using h2
          have hf := Lib.hid (hbad.out (by rw [hok.out, h2', decide_eq_false h1]; simp))
          rw [h2'] at hln
          have hx : (lessB b a || decide (a = b)) = true := by
            cases hc : (lessB b a || decide (a = b)) with
            | true => rfl
            | false => rw [hc] at hln; cases hln
          have hxx : (Op.bytesLess b.toList a.toList || b.toList == a.toList) = true := by
            rw [hq, hbq, ← hx]; congr 1; exact decide_eq_decide.2 ⟨Eq.symm, Eq.symm⟩
          replace h1 := Lib.hid h1; replace h2 := Lib.hid h2; replace h2' := Lib.hid h2'; replace hea := Lib.hid hea; replace heb := Lib.hid heb; replace hln := Lib.hid hln; replace hx := Lib.hid hx; replace hq := Lib.hid hq; replace hbq := Lib.hid hbq
          clear hna hnb
          go_wp2_with (fail)
          all_goals first
            | (go_ret
               exact ⟨by rw [hf.out]; rfl, hbb.out⟩)
            | (exfalso; simp_all)
end Go.Proofs.YtkdfhackpmdgfaaGreatDoor
