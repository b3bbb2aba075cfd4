/- Effects: their values; slices of effects; whether an effect is allowed: the program's and the document's. -/
import Derived.Test.YtgnjnpddehdmcaaGreatDoorHas
import Derived.Test.YtgnjnpddehdmcaaGreatDoorHasG
namespace Go.Proofs.YtgnjnpddehdmcaaGreatDoor
open Go.RowKit
set_option linter.unusedSimpArgs false
set_option linter.unusedVariables false
set_option linter.unusedSectionVars false
set_option maxRecDepth 10000
def encE (x : Ef) : List Value := [.int .i64 x.1, .int .i64 x.2.1, .int .i64 x.2.2]
theorem encE_len (x : Ef) : (encE x).length = 3 := rfl
theorem encE_one (x : Ef) : ∀ u ∈ encE x, u.oneCell' = true := by intro u hu; simp [encE] at hu; rcases hu with rfl | rfl | rfl <;> rfl
def ES (w : World) (A : Option Addr) (n : Nat) (l : List Ef) : Prop := SL encE 3 w A n l
theorem ES.at_ {w : World} {A : Option Addr} {n : Nat} {l : List Ef} (h : ES w A n l) {i : Nat} (hi : i < n) : ∃ b o x, A = some ⟨b, o, none⟩ ∧ b < w.heap.size ∧ l[i]? = some x ∧ w.cell? ⟨b, o + i * 3, none⟩ = some (.int .i64 x.1) ∧ w.cell? ⟨b, o + i * 3 + 1, none⟩ = some (.int .i64 x.2.1) ∧ w.cell? ⟨b, o + i * 3 + 2, none⟩ = some (.int .i64 x.2.2) := by
 obtain ⟨b, o, x, e, hl, hx, hc⟩ := SL.at_ h hi
 exact ⟨b, o, x, e, hl, hx, hc 0 _ rfl, hc 1 _ rfl, hc 2 _ rfl⟩
theorem elemE : Elem Tryz.prog 117 30 3 24 := elem_of (z := .agg #[.int .i64 0, .int .i64 0, .int .i64 0]) Tryz.underlying117 (by kernel_rfl) rfl (by omega)
def chkE (x : Ef) : Int := if okE x then 0 else 2
theorem okE_iff (x : Ef) : okE x = true ↔ 1 ≤ x.1 ∧ x.1 ≤ 9999 ∧ 0 ≤ x.2.1 ∧ x.2.1 < 8 ∧ 1 ≤ x.2.2 ∧ x.2.2 ≤ 3 := by
 simp only [okE, Bool.and_eq_true, decide_eq_true_eq, and_assoc]
theorem chkE_ok {x : Ef} (h : okE x = true) : chkE x = 0 := by unfold chkE; rw [if_pos h]
theorem chkE_bad {x : Ef} (h : ¬ okE x = true) : chkE x = 2 := by unfold chkE; rw [if_neg h]
set_option maxHeartbeats 1000000 in
theorem checkE_any (a b c : Int) (w : World) : Calls Tryz.prog 97 #[.agg #[.int .i64 a, .int .i64 b, .int .i64 c]] w fun e w' => e = .returned (.int .i64 (chkE (a, b, c))) ∧ Below w.heap.size w w' := by
 go_enter Tryz.func97, Tryz.ntmps97
 go_wp2
 all_goals
  go_ret
  refine ⟨ret_int ?_, ?_⟩
  ·
   first | exact (chkE_ok ((okE_iff _).2 (by simp only; omega))).symm | exact (chkE_bad (fun q => by rw [okE_iff] at q; simp only at q; omega)).symm
  ·
   repeat (first | exact Below.refl _ _ | (refine Below.setCell ?_ (by simp) _) | (refine Below.alloc ?_ (by simp) _))
end Go.Proofs.YtgnjnpddehdmcaaGreatDoor
