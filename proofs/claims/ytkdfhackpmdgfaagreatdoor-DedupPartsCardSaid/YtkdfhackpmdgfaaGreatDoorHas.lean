/- Ranges: whether a key is in one. -/
import Derived.Test.YtkdfhackpmdgfaaGreatDoorRng
namespace Go.Proofs.YtkdfhackpmdgfaaGreatDoor
open Go.RowKit Go.Shelf
set_option linter.unusedSimpArgs false
set_option linter.unusedVariables false
set_option linter.unusedSectionVars false
set_option maxRecDepth 10000
theorem name_ne {k : ByteArray} (h : nameB k = true) : ¬ k = noText := by
  rintro rfl
  simp [nameB, noText] at h
  exact absurd h.1 (by decide)
theorem cmpX_neg {k b : ByteArray} (hk : nameB k = true) : decide (cmpX k b < 0) = (decide (b = noText) || lessB k b) := by
  have hne := name_ne hk
  unfold cmpX
  by_cases h1 : k = b
  · subst h1
    rw [if_pos rfl, less_irr, decide_eq_false hne]; rfl
  · rw [if_neg h1, if_neg hne]
    by_cases h2 : b = noText
    · rw [if_pos h2, decide_eq_true h2]; rfl
    · rw [if_neg h2, decide_eq_false h2, Bool.false_or]
      unfold cmpS
      cases h3 : lessB k b with
      | true => simp
      | false => rw [if_neg (by simp), if_neg h1]; rfl
theorem le_not (a k : ByteArray) : (Op.bytesLess a.toList k.toList || a.toList == k.toList) = !lessB k a := by
  have h := less_not (a := k) (b := a)
  rw [h, Bool.not_not, tl_eq]
  show (lessB a k || decide (a = k)) = _
  congr 1
  exact decide_eq_decide.2 ⟨Eq.symm, Eq.symm⟩
set_option maxHeartbeats 2000000 in
theorem ends_any (a b : ByteArray) (g d : Nat) (w : World) (hok : okG (a, b) = true) (ha : a.size ≤ 140737488355328) (hb : b.size ≤ 140737488355328) (hg : w.heap[g]? = some (.cells #[.string a, .string b] 31 (0, 0))) :
    Calls Tryz.prog 52 #[.slice (some ⟨g, 0, none⟩) 1 d] w fun e w' => e = .returned (.tuple #[.func (.func 81) #[] #[], .int .i64 0]) ∧ Below w.heap.size w w' := by
  have hr := fun W => rng_any a b W ha hb
  rw [takeC_ok hok] at hr
  replace hg := Lib.hid hg; replace hok := Lib.hid hok
  go_enter Tryz.func52, Tryz.ntmps52
  go_wp2_with (fail)
  go_loopw [9] (fun i wr => ∃ k : Nat, k ≤ 1 ∧ i = .int .i64 k ∧ Below w.heap.size w wr) (fun i _ => 1 - (intOf i).toNat)
  case atStart => exact ⟨0, by omega, rfl, Below.refl _ _⟩
  case round =>
    revert wr
    intro W1 hrel
    obtain ⟨k, hk, rfl, hbel⟩ := hrel
    rcases (by omega : k = 0 ∨ k = 1) with rfl | rfl
    · have hh := (hbel.block _ (blkX hg.out)).trans hg.out
      have s0 := blkC hh 0; have s1 := blkC hh 1
      simp only [List.getElem?_toArray, List.getElem?_cons_zero, List.getElem?_cons_succ] at s0 s1
      have kb := Lib.hid (hbel.alloc hbel.size (.cells #[.string a, .string b] 31))
      replace hh := Lib.hid hh; replace hbel := Lib.hid hbel
      go_wp2_with (fail)
      refine (hr _).mono ?_
      rintro e w2 ⟨rfl, b2⟩
      have hb2 := Lib.hid (kb.out.trans (b2.mono kb.out.size))
      clear b2 s0 s1
      go_wp2_with (fail)
      exact ⟨⟨1, by omega, by go_num, hb2.out⟩, by simp [intOf]⟩
    · replace hbel := Lib.hid hbel
      go_wp2_with (fail)
      refine bodyPost_ret (results_tmp2 rfl _ _ _) rfl ?_
      exact ⟨rfl, hbel.out⟩
set_option maxHeartbeats 4000000 in
theorem has_any (a b key : ByteArray) (w : World) (hok : okG (a, b) = true) (hk : nameB key = true) (ha : a.size ≤ 140737488355328) (hb : b.size ≤ 140737488355328) (hks : key.size ≤ 140737488355328) :
    Calls Tryz.prog 28 #[.agg #[.string a, .string b], .string key] w fun e w' => e = .returned (.bool (inG (a, b) key)) ∧ Below w.heap.size w w' := by
  have hin : inG (a, b) key = (!lessB key a && (decide (b = noText) || lessB key b)) := rfl
  rw [← cmpX_neg hk] at hin
  have hle := le_not a key
  have hN := fun W => name_any key hks W
  simp only [hk] at hN
  have h1 := fun W => ends1_any key b W
  have kb := (Below.refl w.heap.size w).alloc (Nat.le_refl _) (.cells #[.string a, .string b] 31)
  obtain ⟨W0, hW0⟩ : ∃ W0, W0 = (w.alloc (.cells #[.string a, .string b] 31)).alloc (.cells #[.string a, .string b] 31) := ⟨_, rfl⟩
  have b0 : W0.heap[w.heap.size]? = some (.cells #[.string a, .string b] 31 (0, 0)) := by rw [hW0, hpOld _ (by simp)]; exact hpNew w _
  have b1 : W0.heap[w.heap.size + 1]? = some (.cells #[.string a, .string b] 31 (0, 0)) := by
    have := hpNew (w.alloc (.cells #[.string a, .string b] 31)) (.cells #[.string a, .string b] 31)
    rw [hW0]; simpa using this
  have k0 : Below w.heap.size w W0 := by rw [hW0]; exact kb.alloc kb.size _
  have he := ends_any a b (w.heap.size + 1) 1 W0 hok ha hb b1
  generalize inG (a, b) key = r at *
  generalize cmpX key b = z at *
  replace kb := Lib.hid kb; replace b0 := Lib.hid b0; replace b1 := Lib.hid b1; replace k0 := Lib.hid k0; replace hok := Lib.hid hok; replace hk := Lib.hid hk; replace hin := Lib.hid hin
  go_enter Tryz.func28, Tryz.ntmps28
  go_wp2_with (fail)
  rw [← hW0]
  replace hW0 := Lib.hid hW0
  refine he.mono ?_
  rintro e w1 ⟨rfl, c1⟩
  have hh0 := (c1.block _ (blkX b0.out)).trans b0.out
  have k1 := Lib.hid (k0.out.trans (c1.mono k0.out.size))
  replace hh0 := Lib.hid hh0
  clear c1 he
  cases hl : lessB key a with
  | true =>
    rw [hl] at hle
    have hf : Hid (r = false) := Lib.hid (by rw [hin.out, hl]; rfl)
    replace hl := Lib.hid hl
    go_wp2_with (fail)
    refine (hN _).mono ?_
    rintro e w2 ⟨rfl, c2⟩
    have hh2 := (c2.block _ (blkX hh0.out)).trans hh0.out
    have s0 := blkC hh2 0; have s1 := blkC hh2 1
    simp only [List.getElem?_toArray, List.getElem?_cons_zero, List.getElem?_cons_succ] at s0 s1
    have k2 := Lib.hid (k1.out.trans (c2.mono k1.out.size))
    replace hh2 := Lib.hid hh2
    clear c2
    go_wp2_with (fail)
    go_ret
    exact ⟨by rw [hf.out]; rfl, k2.out⟩
  | false =>
    rw [hl] at hle
    have hf : Hid (r = decide (z < 0)) := Lib.hid (by rw [hin.out, hl]; rfl)
    replace hl := Lib.hid hl
    go_wp2_with (fail)
    refine (hN _).mono ?_
    rintro e w2 ⟨rfl, c2⟩
    have hh2 := (c2.block _ (blkX hh0.out)).trans hh0.out
    have s0 := blkC hh2 0; have s1 := blkC hh2 1
    simp only [List.getElem?_toArray, List.getElem?_cons_zero, List.getElem?_cons_succ] at s0 s1
    have k2 := Lib.hid (k1.out.trans (c2.mono k1.out.size))
    replace hh2 := Lib.hid hh2
    clear c2
    go_wp2_with (fail)
    refine (h1 _).mono ?_
    rintro e w3 ⟨rfl, rfl⟩
    go_wp2_with (fail)
    go_ret
    exact ⟨by rw [hf.out]; rfl, k2.out⟩
end Go.Proofs.YtkdfhackpmdgfaaGreatDoor
