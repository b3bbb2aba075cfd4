/- slices.Equal and slices.Contains at effects. -/
import Derived.Test.YthmkfbabacehnaaDoorShelf
import Derived.Test.YthmkfbabacehnaaDoorUp
import Derived.Laws.StructEq
namespace Go.Proofs.YthmkfbabacehnaaDoor
open Go.RowKit Go.Shelf Go.Lib
set_option linter.unusedSimpArgs false
set_option linter.unusedVariables false
set_option linter.unusedSectionVars false
set_option maxRecDepth 10000
theorem eqE_run (x y : Ef) (w : World) : (Op.equalIn 10000 56 (.agg (encE x).toArray) (.agg (encE y).toArray)).run Tryd.prog w = .ok (decide (x = y)) w := by
  have u3 := Tryd.underlying3
  have a3 := Tryd.isAgg3
  have z3 := Tryd.sizeOf3
  have hS : Tryd.prog.underlying 56 = some (.struct (Tryd.prog.fieldsOf 56)) := by kernel_rfl
  have hp : Tryd.prog.stoodInHeld 56 = false := by kernel_rfl
  obtain ⟨a, b, c⟩ := x
  obtain ⟨d, e, f⟩ := y
  simp only [encE]
  rw [show (10000 : Nat) = 9999 + 1 from rfl, run_equalIn_agg w 9999 56 _ _ hS hp]
  simp only [Program.fieldsOf, Tryd.underlying56]
  go_simp
  by_cases h1 : a = d <;> by_cases h2 : b = e <;> by_cases h3 : c = f <;> simp [h1, h2, h3]
theorem eqE : EqlAt Tryd.prog 56 (fun x => .agg (encE x).toArray) (fun x y => decide (x = y)) :=
  ⟨fun x y w => by rw [run_eql_struct, eqE_run]; rfl, GuardAt.agg (fun x => (encE x).toArray) (by kernel_rfl)⟩
theorem neE : NeqAt Tryd.prog 56 (fun x => .agg (encE x).toArray) (fun x y => decide (x = y)) :=
  ⟨fun x y w => by rw [run_neq_struct, eqE_run]; rfl, GuardAt.agg (fun x => (encE x).toArray) (by kernel_rfl)⟩
theorem allEq_dec : ∀ l m : List Ef, Lib.allEq (fun x y => decide (x = y)) l m = decide (l = m)
  | [], [] => by simp [Lib.allEq]
  | [], _ :: _ => by simp [Lib.allEq]
  | _ :: _, [] => by simp [Lib.allEq]
  | x :: l, y :: m => by
    have := allEq_dec l m
    simp [Lib.allEq, this]
theorem ES.cells {w : World} {b o n : Nat} {l : List Ef} (h : ES w (some ⟨b, o, none⟩) n l) (hn : 0 < n) : ∀ j, j < l.length → ∀ i v, (encE l[j]!)[i]? = some v → w.cell? ⟨b, o + j * 3 + i, none⟩ = some v := by
  obtain ⟨b', o', e, _, hc⟩ := h.2 hn
  injection e with e
  injection e with e1 e2
  subst e1 e2
  intro j hj i v hv
  have : l[j]? = some l[j]! := by rw [List.getElem!_eq_getElem?_getD, List.getElem?_eq_getElem hj]; rfl
  exact hc j _ this i v hv
set_option maxHeartbeats 4000000 in
theorem equal_any (A B : Option Addr) (n c m d : Nat) (l r : List Ef) (w : World) (h1 : ES w A n l) (h2 : ES w B m r) (hn : n ≤ 70368744177664) (hm : m ≤ 70368744177664) :
    Calls Tryd.prog 25 #[.slice A n c, .slice B m d] w fun e w' => e = .returned (.bool (decide (l = r))) ∧ Below w.heap.size w w' := by
  have hl1 := h1.1
  have hl2 := h2.1
  by_cases hnm : n = m
  · subst hnm
    by_cases h0 : n = 0
    · subst h0
      have e1 : l = [] := List.eq_nil_of_length_eq_zero hl1
      have e2 : r = [] := List.eq_nil_of_length_eq_zero hl2
      subst e1 e2
      clear h1 h2
      go_enter Tryd.func25, Tryd.ntmps25
      go_wp2
      go_loopw [13] (fun i wr => i = .int .i64 0 ∧ wr = w) (fun i _ => 0)
      case atStart => exact ⟨rfl, rfl⟩
      case round =>
        obtain ⟨rfl, rfl⟩ := hrel
        go_wp2
        go_ret
        exact ⟨rfl, Below.refl _ _⟩
    · obtain ⟨b, o, rfl, _⟩ := h1.2 (by omega)
      obtain ⟨b', o', rfl, _⟩ := h2.2 (by omega)
      refine (Tryd.slices_Equal_E encE encE_len _ neE b o n c b' o' n d l r w (by omega) (by omega) (by omega) (by omega) (h1.cells (by omega)) (h2.cells (by omega))).mono ?_
      rintro e w' ⟨rfl, q, rfl⟩
      rw [List.take_of_length_le (by omega), List.take_of_length_le (by omega), allEq_dec]
      exact ⟨rfl, below_drewN (Below.refl _ _) _⟩
  · have hne : ¬ l = r := fun e => hnm (by rw [← hl1, ← hl2, e])
    have hz : ((n : Int) == (m : Int)) = false := beq_false_of_ne (by omega)
    have hd : decide (l = r) = false := by simp [hne]
    rw [hd]
    clear h1 h2 hne hd
    go_enter Tryd.func25, Tryd.ntmps25
    go_wp2
    go_ret
    exact ⟨rfl, Below.refl _ _⟩
set_option maxHeartbeats 4000000 in
theorem index_none (A : Option Addr) (c : Nat) (x : Array Value) (w : World) :
    Calls Tryd.prog 42 #[.slice A 0 c, .agg x] w fun e w' => e = .returned (.int .i64 (-1)) ∧ Below w.heap.size w w' := by
  go_enter Tryd.func42, Tryd.ntmps42
  go_wp2
  go_loopw [8] (fun i wr => i = .int .i64 0 ∧ Below w.heap.size w wr) (fun i _ => 0)
  case atStart => exact ⟨rfl, (Below.refl w.heap.size w).alloc (Nat.le_refl _) _⟩
  case round =>
    obtain ⟨rfl, hb⟩ := hrel
    go_wp2
    go_ret
    exact ⟨rfl, hb⟩
set_option maxHeartbeats 4000000 in
theorem contains_any (A : Option Addr) (n c : Nat) (l : List Ef) (x : Ef) (w : World) (h1 : ES w A n l) (hn : n ≤ 70368744177664) :
    Calls Tryd.prog 27 #[.slice A n c, .agg #[.int .i64 x.1, .int .i64 x.2.1, .int .i64 x.2.2]] w fun e w' => e = .returned (.bool (decide (x ∈ l))) ∧ Below w.heap.size w w' := by
  have hl1 := h1.1
  by_cases h0 : n = 0
  · subst h0
    have e1 : l = [] := List.eq_nil_of_length_eq_zero hl1
    subst e1
    clear h1
    go_enter Tryd.func27, Tryd.ntmps27
    go_wp2_with (go_at_call 42; refine (index_none _ _ _ _).mono ?_; rintro e w5 ⟨rfl, b5⟩)
    go_ret
    refine ⟨rfl, ?_⟩
    exact ((Below.refl w.heap.size w).alloc (Nat.le_refl _) _).trans (b5.mono (by simp))
  · obtain ⟨b, o, rfl, _⟩ := h1.2 (by omega)
    refine (Tryd.slices_Contains_E encE encE_len _ eqE b o n c l x w (by omega) (by omega) (h1.cells (by omega))).mono ?_
    rintro e w' ⟨rfl, hb⟩
    refine ⟨ret_bool ?_, hb⟩
    rw [List.take_of_length_le (by omega), Bool.eq_iff_iff]
    simp
end Go.Proofs.YthmkfbabacehnaaDoor
