/- slices.Equal and slices.Contains at effects. -/
import Derived.Test.YtkdfhackpmdgfaaGreatDoorShelf
import Derived.Test.YtkdfhackpmdgfaaGreatDoorOrd
import Derived.Laws.StructEq
namespace Go.Proofs.YtkdfhackpmdgfaaGreatDoor
open Go.RowKit Go.Shelf Go.Lib
set_option linter.unusedSimpArgs false
set_option linter.unusedVariables false
set_option linter.unusedSectionVars false
set_option maxRecDepth 10000
theorem eqE_run (x y : Ef) (w : World) : (Op.equalIn 10000 39 (.agg (encE x).toArray) (.agg (encE y).toArray)).run Tryz.prog w = .ok (decide (x = y)) w := by
  have u3 := Tryz.underlying3
  have a3 := Tryz.isAgg3
  have z3 := Tryz.sizeOf3
  have hS : Tryz.prog.underlying 39 = some (.struct (Tryz.prog.fieldsOf 39)) := by kernel_rfl
  have hp : Tryz.prog.stoodInHeld 39 = false := by kernel_rfl
  obtain ⟨a, b, c⟩ := x
  obtain ⟨d, e, f⟩ := y
  simp only [encE]
  rw [show (10000 : Nat) = 9999 + 1 from rfl, run_equalIn_agg w 9999 39 _ _ hS hp]
  simp only [Program.fieldsOf, Tryz.underlying39]
  go_simp
  by_cases h1 : a = d <;> by_cases h2 : b = e <;> by_cases h3 : c = f <;> simp [h1, h2, h3]
theorem eqE : EqlAt Tryz.prog 39 (fun x => .agg (encE x).toArray) (fun x y => decide (x = y)) :=
  ⟨fun x y w => by rw [run_eql_struct, eqE_run]; rfl, GuardAt.agg (fun x => (encE x).toArray) (by kernel_rfl)⟩
theorem neE : NeqAt Tryz.prog 39 (fun x => .agg (encE x).toArray) (fun x y => decide (x = y)) :=
  ⟨fun x y w => by rw [run_neq_struct, eqE_run]; rfl, GuardAt.agg (fun x => (encE x).toArray) (by kernel_rfl)⟩
theorem allEq_dec : ∀ l m : List Ef, Lib.allEq (fun x y => decide (x = y)) l m = decide (l = m)
  | [], [] => by simp [Lib.allEq]
  | [], _ :: _ => by simp [Lib.allEq]
  | _ :: _, [] => by simp [Lib.allEq]
  | x :: l, y :: m => by
    have := allEq_dec l m
    simp [Lib.allEq, this]
theorem ES.cells {w : World} {b o n : Nat} {l : List Ef} (h : ES w (some ⟨b, o, none⟩) n l) (hn : 0 < n) : ∀ j, j < l.length → ∀ i v, (encE l[j]!)[i]? = some v → w.cell? ⟨b, o + j * 3 + i, none⟩ = some v := by
  obtain ⟨b', o', e, _, hc⟩ := h.2 hn
  injection e with e
  injection e with e1 e2
  subst e1 e2
  intro j hj i v hv
  have : l[j]? = some l[j]! := by rw [List.getElem!_eq_getElem?_getD, List.getElem?_eq_getElem hj]; rfl
  exact hc j _ this i v hv
set_option maxHeartbeats 4000000 in
theorem equal_any (A B : Option Addr) (n c m d : Nat) (l r : List Ef) (w : World) (h1 : ES w A n l) (h2 : ES w B m r) (hn : n ≤ 70368744177664) (hm : m ≤ 70368744177664) :
    Calls Tryz.prog 12 #[.slice A n c, .slice B m d] w fun e w' => e = .returned (.bool (decide (l = r))) ∧ Below w.heap.size w w' := by
  have hl1 := h1.1
  have hl2 := h2.1
  by_cases hnm : n = m
  · subst hnm
    by_cases h0 : n = 0
    · subst h0
      have e1 : l = [] := List.eq_nil_of_length_eq_zero hl1
      have e2 : r = [] := List.eq_nil_of_length_eq_zero hl2
      subst e1 e2
      clear h1 h2
      go_enter Tryz.func12, Tryz.ntmps12
      go_wp2
      go_loopw [13] (fun i wr => i = .int .i64 0 ∧ wr = w) (fun i _ => 0)
      case atStart => exact ⟨rfl, rfl⟩
      case round =>
        obtain ⟨rfl, rfl⟩ := hrel
        go_wp2
        go_ret
        exact ⟨rfl, Below.refl _ _⟩
    · obtain ⟨b, o, rfl, _⟩ := h1.2 (by omega)
      obtain ⟨b', o', rfl, _⟩ := h2.2 (by omega)
      refine (Tryz.slices_Equal_E encE encE_len _ neE b o n c b' o' n d l r w (by omega) (by omega) (by omega) (by omega) (h1.cells (by omega)) (h2.cells (by omega))).mono ?_
      rintro e w' ⟨rfl, q, rfl⟩
      rw [List.take_of_length_le (by omega), List.take_of_length_le (by omega), allEq_dec]
      exact ⟨rfl, below_drewN (Below.refl _ _) _⟩
  · have hne : ¬ l = r := fun e => hnm (by rw [← hl1, ← hl2, e])
    have hz : ((n : Int) == (m : Int)) = false := beq_false_of_ne (by omega)
    have hd : decide (l = r) = false := by simp [hne]
    rw [hd]
    clear h1 h2 hne hd
    go_enter Tryz.func12, Tryz.ntmps12
    go_wp2
    go_ret
    exact ⟨rfl, Below.refl _ _⟩
end Go.Proofs.YtkdfhackpmdgfaaGreatDoor
