/- Which definitions are looked at. -/
import Derived.Test.YthmkfbabacehnaaDoorDefnK
namespace Go.Proofs.YthmkfbabacehnaaDoor
open Go.RowKit Go.Shelf
set_option linter.unusedSimpArgs false
set_option linter.unusedVariables false
set_option linter.unusedSectionVars false
set_option maxRecDepth 10000
def shortB (nm : ByteArray) (ss : List St) : Bool := decide (ss.length ≤ 20) && decide (nm.size ≤ 40) && ss.all fun x => decide (x.1.size ≤ 40)
set_option maxHeartbeats 4000000 in
theorem short_any (nm : ByteArray) (r dl : Int) (A : Option Addr) (n c : Nat) (ss : List St) (w : World) (h : SS w A n ss) :
    Calls Tryd.prog 6 #[.agg #[.string nm, .int .i64 r, .int .i64 dl, .slice A n c]] w fun e w' => e = .returned (.bool (shortB nm ss)) ∧ Below w.heap.size w w' := by
  have hl := h.1
  have kb := (Below.refl w.heap.size w).alloc (Nat.le_refl _) (.cells #[.string nm, .int .i64 r, .int .i64 dl, .slice A n c] 24)
  by_cases h1 : n ≤ 20
  · have h1i : ¬ (20 : Int) < n := by omega
    by_cases h2 : nm.size ≤ 40
    · have h2i : ¬ (40 : Int) < nm.size := by omega
      have hs : shortB nm ss = ss.all fun x => decide (x.1.size ≤ 40) := by simp [shortB, hl, h1, h2]
      replace hs := Lib.hid hs
      replace h := Lib.hid h; replace hl := Lib.hid hl
      have d3 := blkC (hpNew w (.cells #[.string nm, .int .i64 r, .int .i64 dl, .slice A n c] 24)) 3
      simp only [List.getElem?_toArray, List.getElem?_cons_zero, List.getElem?_cons_succ] at d3
      obtain ⟨W0, hW0⟩ : ∃ W0, W0 = w.alloc (.cells #[.string nm, .int .i64 r, .int .i64 dl, .slice A n c] 24) := ⟨_, rfl⟩
      rw [← hW0] at d3 kb
      have lt0 : w.heap.size < W0.heap.size := by rw [hW0]; simp
      have hS0 := SL.keep h.out kb
      replace d3 := Lib.hid d3; replace hW0 := Lib.hid hW0; replace kb := Lib.hid kb; replace hS0 := Lib.hid hS0
      go_enter Tryd.func6, Tryd.ntmps6
      go_wp2_with (fail)
      go_loopw [3] (fun i wr => ∃ k : Nat, k ≤ n ∧ i = .int .i64 k ∧ ((ss.take k).all fun x => decide (x.1.size ≤ 40)) = true ∧ Below W0.heap.size W0 wr) (fun i _ => n - (intOf i).toNat)
      case atStart => exact ⟨0, by omega, rfl, by simp, by rw [hW0.out]; exact Below.refl _ _⟩
      case round =>
        revert wr
        intro W1 hrel
        obtain ⟨k, hk, rfl, hall, hb⟩ := hrel
        have g3 := (hb.cell (p := ⟨w.heap.size, 3, none⟩) lt0).trans d3.out
        by_cases hlt : k < n
        · obtain ⟨b, o, ⟨key, dt⟩, rfl, hbl, hx, hc0, hc1⟩ := SS.at_ (SL.keep hS0.out hb) hlt
          simp only at hc0 hc1
          have j0 : (0 : Int) ≤ k := by omega
          have j1 : (k : Int) < n := by omega
          have hst : ((ss.take (k + 1)).all fun x => decide (x.1.size ≤ 40)) = decide (key.size ≤ 40) := by
            rw [List.take_add_one, hx, List.all_append, hall]; simp
          have hno : ¬ key.size ≤ 40 → (ss.all fun x => decide (x.1.size ≤ 40)) = false := fun q => by
            rw [Bool.eq_false_iff]
            intro ha
            have := List.all_eq_true.1 ha _ (List.mem_of_getElem? hx)
            simp only [decide_eq_true_eq] at this
            exact q this
          have hbb := Lib.hid (kb.out.trans (hb.mono kb.out.size))
          replace hb := Lib.hid hb; replace hx := Lib.hid hx; replace hall := Lib.hid hall; replace hno := Lib.hid hno
          by_cases h4 : key.size ≤ 40
          · have h4i : ¬ (40 : Int) < key.size := by omega
            rw [decide_eq_true h4] at hst
            replace hst := Lib.hid hst
            go_wp2_with (fail)
            exact ⟨⟨k + 1, by omega, by go_num, hst.out, hb.out⟩, by simp [intOf]; omega⟩
          · have h4i : (40 : Int) < key.size := by omega
            have hf := Lib.hid (hs.out.trans (hno.out h4))
            clear hst
            go_wp2_with (fail)
            go_ret
            exact ⟨by rw [hf.out]; rfl, hbb.out⟩
        · obtain rfl : k = n := by omega
          rw [List.take_of_length_le (by have := hl.out; omega)] at hall
          have hf := Lib.hid (hs.out.trans hall)
          have hbb := Lib.hid (kb.out.trans (hb.mono kb.out.size))
          replace hb := Lib.hid hb
          clear hall
          go_wp2_with (fail)
          go_ret
          exact ⟨by rw [hf.out]; rfl, hbb.out⟩
    · have h2i : (40 : Int) < nm.size := by omega
      have hf : shortB nm ss = false := by simp [shortB]; omega
      rw [hf]
      clear hf
      replace h := Lib.hid h; replace hl := Lib.hid hl; replace kb := Lib.hid kb
      go_enter Tryd.func6, Tryd.ntmps6
      go_wp2_with (fail)
      go_ret
      exact ⟨rfl, kb.out⟩
  · have h1i : (20 : Int) < n := by omega
    have hf : shortB nm ss = false := by simp [shortB]; omega
    rw [hf]
    clear hf
    replace h := Lib.hid h; replace hl := Lib.hid hl; replace kb := Lib.hid kb
    go_enter Tryd.func6, Tryd.ntmps6
    go_wp2_with (fail)
    go_ret
    exact ⟨rfl, kb.out⟩
end Go.Proofs.YthmkfbabacehnaaDoor
