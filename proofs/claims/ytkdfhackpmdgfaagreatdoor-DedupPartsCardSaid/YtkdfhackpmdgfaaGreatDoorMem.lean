/- Memos in the program: their values, the map of them. -/
import Derived.Test.YtkdfhackpmdgfaaGreatDoorMemP
import Derived.Test.YtkdfhackpmdgfaaGreatDoorMp
import Derived.Test.YtkdfhackpmdgfaaGreatDoorTb
import Derived.DeepKeys5
namespace Go.Proofs.YtkdfhackpmdgfaaGreatDoor
open Go.RowKit Go.Shelf
open Go.Maps (Keyed)
set_option linter.unusedSimpArgs false
set_option linter.unusedVariables false
set_option linter.unusedSectionVars false
set_option maxRecDepth 10000
def efV (y : Ef) : Value := .agg #[.int .i64 y.1, .int .i64 y.2.1, .int .i64 y.2.2]
def moV (m : Mo) : Value := .agg #[.int .u8 m.1, .int .u8 m.2.1, .int .u8 m.2.2.1, .int .i32 m.2.2.2.1, .int .u8 m.2.2.2.2]
def efOf : Value → Option Ef
  | .agg ⟨[.int .i64 a, .int .i64 b, .int .i64 c]⟩ => some (a, b, c)
  | _ => none
theorem efOf_efV (y : Ef) : efOf (efV y) = some y := rfl
theorem efOf_inv {v : Value} {y : Ef} (h : efOf v = some y) : v = efV y := by
  unfold efOf at h
  split at h
  · cases h; rfl
  · cases h
/-- What the map says. -/
def fQ (Q : List Mo) (key : Value) : Option Value := (efOf key).bind fun e => (mof Q e).map moV
theorem fQ_ef (Q : List Mo) (y : Ef) : fQ Q (efV y) = (mof Q y).map moV := rfl
theorem fQ_snoc (Q : List Mo) (m : Mo) (h : mof Q (moE m) = none) : fQ (Q ++ [m]) (efV (moE m)) = some (moV m) ∧ ∀ x, x ≠ efV (moE m) → fQ (Q ++ [m]) x = fQ Q x := by
  refine ⟨?_, fun x hx => ?_⟩
  · rw [fQ_ef, mof_snoc Q m _ h, if_pos rfl]; rfl
  · unfold fQ
    cases he : efOf x with
    | none => rfl
    | some e =>
      have := efOf_inv he
      show (mof (Q ++ [m]) e).map moV = (mof Q e).map moV
      rw [mof_snoc Q m e h, if_neg fun q => hx (by rw [this, q])]
abbrev keyT : TypeId := 39
theorem keyLaw : Keyed Tryz.prog 39 := Keyed.of_law (deep_law_laid (by kernel_rfl) (m := 2) (by omega) (of_decide_eq_true (by kernel_rfl)) (by kernel_rfl) (by kernel_rfl))
def allE : List Ef := (List.range 6).flatMap fun s => (List.range 8).flatMap fun i => (List.range 3).map fun p => ((1 + s : Nat), (i : Nat), (1 + p : Nat))
theorem keys_all : allE.all (fun y => (keyOf Tryz.prog 39 (efV y)).isSome) = true := by decide +kernel
theorem key_mo {m : Mo} (h : okM m) : ∃ l, keyOf Tryz.prog 39 (efV (moE m)) = some l := by
  have hm : moE m ∈ allE := by
    have := h.a; have := h.b
    unfold allE
    simp only [List.mem_flatMap, List.mem_map, List.mem_range]
    refine ⟨(m.1 % 5).toNat, by omega, (m.2.1 % 8).toNat, by omega, (m.2.1 / 8 % 3).toNat, by omega, ?_⟩
    simp only [moE, Prod.mk.injEq]
    omega
  exact Option.isSome_iff_exists.1 (List.all_eq_true.1 keys_all _ hm)
/-- The map of memos. -/
abbrev MM (w : World) (B : Nat) (Q : List Mo) : Prop := MapOf Tryz.prog 39 w B Q.length (fQ Q)
end Go.Proofs.YtkdfhackpmdgfaaGreatDoor
