/- What Do, Undo and Free come to, in two ways each. -/
import Derived.Test.YtmkggjhlacajaaaMade
namespace Go.Proofs.Ytmkggjhlacajaaa
open Go.RowKit
set_option linter.unusedSimpArgs false
set_option linter.unusedVariables false
/-- What Do, Undo and Free come to: refused, or a valid counter; with the arithmetic of each. -/
theorem do_or {v up dn lo hi d : Int} (hc : ckOK v up dn lo hi = true) (h1 : -32768 ≤ d) (h2 : d ≤ 32767) :
    (doR v up dn lo hi d = .bad 7 ∧ ((0 ≤ d ∧ (hi < v + dn + d ∨ 1152921504606846976 < up + d)) ∨ (d < 0 ∧ (v - up + d < lo ∨ 1152921504606846976 < dn - d)))) ∨
    (∃ a b c, doR v up dn lo hi d = .ok a b c lo hi ∧ ckOK a b c lo hi = true ∧ a = v + d ∧ ((0 ≤ d ∧ b = up + d ∧ c = dn) ∨ (d < 0 ∧ b = up ∧ c = dn - d))) := by
  have hd : inNum d = true := by rw [inNum_iff]; omega
  have hl := ckOK_lin hc
  rcases Int.lt_or_le d 0 with h | h
  · by_cases q : lo ≤ v - up + d ∧ dn - d ≤ 1152921504606846976
    · exact .inr ⟨_, _, _, doR_nok hc hd h q, by rw [ckOK_iff]; omega, rfl, .inr ⟨h, rfl, rfl⟩⟩
    · exact .inl ⟨doR_nbad hc hd h (by omega), by omega⟩
  · by_cases q : v + dn + d ≤ hi ∧ up + d ≤ 1152921504606846976
    · exact .inr ⟨_, _, _, doR_pok hc hd h q, by rw [ckOK_iff]; omega, rfl, .inl ⟨h, rfl, rfl⟩⟩
    · exact .inl ⟨doR_pbad hc hd h (by omega), by omega⟩
theorem undo_held {v up dn lo hi d : Int} (hc : ckOK v up dn lo hi = true) (h1 : -32768 ≤ d) (h2 : d ≤ 32767) (hh : (0 ≤ d ∧ d ≤ up) ∨ (d < 0 ∧ -d ≤ dn)) :
    ∃ a b c, undoR v up dn lo hi d = .ok a b c lo hi ∧ ckOK a b c lo hi = true ∧ a = v - d ∧ ((0 ≤ d ∧ b = up - d ∧ c = dn) ∨ (d < 0 ∧ b = up ∧ c = dn + d)) := by
  have hd : inNum d = true := by rw [inNum_iff]; omega
  have hl := ckOK_lin hc
  rcases hh with ⟨h, q⟩ | ⟨h, q⟩
  · exact ⟨_, _, _, undoR_pok hc hd h q, by rw [ckOK_iff]; omega, rfl, .inl ⟨h, rfl, rfl⟩⟩
  · exact ⟨_, _, _, undoR_nok hc hd h q, by rw [ckOK_iff]; omega, rfl, .inr ⟨h, rfl, rfl⟩⟩
theorem free_held {v up dn lo hi d : Int} (hc : ckOK v up dn lo hi = true) (h1 : -32768 ≤ d) (h2 : d ≤ 32767) (hh : (0 ≤ d ∧ d ≤ up) ∨ (d < 0 ∧ -d ≤ dn)) :
    ∃ a b c, freeR v up dn lo hi d = .ok a b c lo hi ∧ ckOK a b c lo hi = true ∧ a = v ∧ ((0 ≤ d ∧ b = up - d ∧ c = dn) ∨ (d < 0 ∧ b = up ∧ c = dn + d)) := by
  have hd : inNum d = true := by rw [inNum_iff]; omega
  have hl := ckOK_lin hc
  rcases hh with ⟨h, q⟩ | ⟨h, q⟩
  · exact ⟨_, _, _, freeR_pok hc hd h q, by rw [ckOK_iff]; omega, rfl, .inl ⟨h, rfl, rfl⟩⟩
  · exact ⟨_, _, _, freeR_nok hc hd h q, by rw [ckOK_iff]; omega, rfl, .inr ⟨h, rfl, rfl⟩⟩
end Go.Proofs.Ytmkggjhlacajaaa
