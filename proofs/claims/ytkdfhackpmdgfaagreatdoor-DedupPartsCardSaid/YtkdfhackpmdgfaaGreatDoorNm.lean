/- Names: the program's and the document's function. -/
import Derived.Test.YtkdfhackpmdgfaaGreatDoorNmP
import Derived.Test.YtkdfhackpmdgfaaGreatDoorShelf
namespace Go.Proofs.YtkdfhackpmdgfaaGreatDoor
open Go.RowKit Go.Shelf
set_option linter.unusedSimpArgs false
set_option linter.unusedVariables false
set_option linter.unusedSectionVars false
set_option maxRecDepth 10000
def cset : ByteArray := ⟨#[97, 98, 99, 100, 101, 102, 103, 104, 105, 106, 107, 108, 109, 110, 111, 112, 113, 114, 115, 116, 117, 118, 119, 120, 121, 122, 48, 49, 50, 51, 52, 53, 54, 55, 56, 57]⟩
theorem trim_any (s : ByteArray) (hs : s.size ≤ 140737488355328) (w : World) : Calls Tryz.prog 68 #[.string s, .string cset] w fun e w' => e = .returned (.string ⟨(Lib.trimS s.data.toList lets).toArray⟩) ∧ Below w.heap.size w w' :=
  Tryz.strings_Trim s cset w (by omega) (by decide) (ascii_of_all (by decide))
theorem pred_z (w : World) : PredAt Tryz.prog 70 #[] Go.Proofs.encR (fun r => decide (122 < r)) w := fun W r _ => by
  unfold FnGives
  go_enter Tryz.func70, Tryz.ntmps70
  go_wp2
  go_ret
  exact ⟨by simp; omega, 0, rfl⟩
theorem cont_any (s : ByteArray) (h : s.data.toList.all okC = true) (w : World) : Calls Tryz.prog 69 #[.string s, .func (.func 70) #[] #[]] w fun e w' => e = .returned (.bool false) ∧ Below w.heap.size w w' := by
  have := Tryz.strings_ContainsFunc 70 #[] (enters_of Tryz.func70 (by kernel_rfl) rfl) (fun r => decide (122 < r)) s w (pred_z w)
  rw [name_all h] at this
  exact this
set_option maxHeartbeats 1000000 in
theorem name_any (s : ByteArray) (hs : s.size ≤ 140737488355328) (w : World) : Calls Tryz.prog 35 #[.string s] w fun e w' => e = .returned (.bool (nameB s)) ∧ Below w.heap.size w w' := by
  by_cases h1 : 1 ≤ s.size
  · have h1i : (1 : Int) ≤ s.size := by omega
    by_cases h2 : s.size ≤ 16
    · have h2i : (s.size : Int) ≤ 16 := by omega
      have ht := trim_any s hs w
      unfold cset at ht
      cases hall : s.data.toList.all okC with
      | true =>
        have hB : nameB s = true := by simp [nameB, h1, h2, hall]
        have ht0 : Lib.trimS s.data.toList lets = [] := (trim_nil _ _).2 hall
        rw [hB]
        rw [ht0] at ht
        have hc := fun W => cont_any s hall W
        clear hall hB ht0
        go_enter Tryz.func35, Tryz.ntmps35
        go_wp2_with (fail)
        refine ht.mono ?_
        rintro e w1 ⟨rfl, b1⟩
        go_wp2_with (fail)
        refine (hc w1).mono ?_
        rintro e w2 ⟨rfl, b2⟩
        go_wp2_with (fail)
        go_ret
        exact ⟨rfl, b1.trans (b2.mono b1.size)⟩
      | false =>
        have hB : nameB s = false := by simp [nameB, hall]
        have ht0 : ¬ Lib.trimS s.data.toList lets = [] := fun e => by
          have := (trim_nil _ _).1 e
          rw [show s.data.toList.all (lets.contains ·) = s.data.toList.all okC from rfl, hall] at this
          cases this
        rw [hB]
        obtain ⟨x, r, hx⟩ : ∃ x r, Lib.trimS s.data.toList lets = x :: r := by
          cases hm : Lib.trimS s.data.toList lets with
          | nil => exact absurd hm ht0
          | cons x r => exact ⟨x, r, rfl⟩
        rw [hx] at ht
        clear hall hB ht0 hx
        go_enter Tryz.func35, Tryz.ntmps35
        go_wp2_with (fail)
        refine ht.mono ?_
        rintro e w1 ⟨rfl, b1⟩
        go_wp2_with (fail)
        go_ret
        exact ⟨rfl, b1⟩
    · have h2i : ¬ (s.size : Int) ≤ 16 := by omega
      have hB : nameB s = false := by simp [nameB]; omega
      rw [hB]
      clear hB
      go_enter Tryz.func35, Tryz.ntmps35
      go_wp2_with (fail)
      go_ret
      exact ⟨rfl, Below.refl _ _⟩
  · have h1i : ¬ (1 : Int) ≤ s.size := by omega
    have hB : nameB s = false := by simp [nameB]; omega
    rw [hB]
    clear hB
    go_enter Tryz.func35, Tryz.ntmps35
    go_wp2_with (fail)
    go_ret
    exact ⟨rfl, Below.refl _ _⟩
end Go.Proofs.YtkdfhackpmdgfaaGreatDoor
