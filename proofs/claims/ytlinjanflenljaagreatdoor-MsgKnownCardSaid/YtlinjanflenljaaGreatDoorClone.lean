/- bytes.Clone and bytes.Equal at slices that read as lists of bytes. -/
import Derived.Test.YtlinjanflenljaaGreatDoorMem
import Derived.Test.YtlinjanflenljaaGreatDoorShelf
namespace Go.Proofs.YtlinjanflenljaaGreatDoor
open Go.RowKit
set_option linter.unusedVariables false
theorem bvs_ints (l : List UInt8) : bvs l = (l.map fun c => (c.toNat : Int)).map (Value.int .u8) := by simp [bvs, bv]
/-- bytes.Clone: of a slice that reads as a list. -/
theorem clone_any {A : Option Addr} {n : Nat} {xs : List UInt8} {w : World} (h : RB w A n xs) (c : Nat) (hn : n ≤ 140737488355328) :
    Calls Tryz.prog 53 #[.slice A n c] w fun e w' => ∃ A' c', e = .returned (.slice A' n c') ∧ w'.ownsRow w.heap.size 5 1 (.slice A' n c') n (bvs xs) ∧ Below w.heap.size w w' := by
  obtain ⟨hl, hc⟩ := h
  cases A with
  | none =>
    have h0 : n = 0 := by
      rcases Nat.eq_zero_or_pos n with h0 | h0
      · exact h0
      · obtain ⟨ad, e, _⟩ := hc h0; cases e
    subst h0
    have hx : xs = [] := List.eq_nil_of_length_eq_zero hl
    subst hx
    refine (Tryz.bytes_Clone_nil 0 c w).mono ?_
    rintro e w' ⟨rfl, rfl⟩
    exact ⟨none, 0, rfl, World.ownsRow_nil _ _ _ _, Below.refl _ _⟩
  | some a =>
    refine (Tryz.bytes_Clone_at a n c (xs.map fun c => (c.toNat : Int)) w (by simpa using hl) hn ?_).mono ?_
    · intro i hi
      obtain ⟨ad, e, _, hc⟩ := hc (by omega)
      have e2 : a = ad := Option.some.inj e
      rw [e2]
      refine hc i _ ?_
      rw [bvs_ints]
      simp [hl, hi]
    · rintro e w' ⟨v', rfl, hown, _, hb⟩
      rw [← bvs_ints] at hown
      have hform : ∃ A' c', v' = .slice A' n c' := by
        rcases hown.2 with ⟨e, e2⟩ | ⟨k, cp, cur, e, _⟩
        · exact ⟨none, 0, by rw [e, e2]⟩
        · exact ⟨_, _, e⟩
      obtain ⟨A', c', rfl⟩ := hform
      exact ⟨A', c', rfl, hown, hb⟩
end Go.Proofs.YtlinjanflenljaaGreatDoor
