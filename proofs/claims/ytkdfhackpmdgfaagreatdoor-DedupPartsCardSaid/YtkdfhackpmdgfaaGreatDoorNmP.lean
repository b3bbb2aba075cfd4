/- Names: what a name is, in plain words. -/
import Derived.Test.YtkdfhackpmdgfaaGreatDoorKit
import Derived.Lib.SlTrimSet
import Derived.Shelf.GgClosure.StringsIndexFunc
namespace Go.Proofs.YtkdfhackpmdgfaaGreatDoor
set_option linter.unusedSimpArgs false
set_option linter.unusedVariables false
def lets : List UInt8 := [97, 98, 99, 100, 101, 102, 103, 104, 105, 106, 107, 108, 109, 110, 111, 112, 113, 114, 115, 116, 117, 118, 119, 120, 121, 122, 48, 49, 50, 51, 52, 53, 54, 55, 56, 57]
def okC (b : UInt8) : Bool := lets.contains b
def nameB (s : ByteArray) : Bool := decide (1 ≤ s.size) && decide (s.size ≤ 16) && s.data.toList.all okC
set_option maxRecDepth 100000 in
theorem okC_iff (b : UInt8) : okC b = true ↔ (97 ≤ b.toNat ∧ b.toNat ≤ 122) ∨ (48 ≤ b.toNat ∧ b.toNat ≤ 57) := by
  have h : ∀ n : Fin 256, okC (UInt8.ofNat n.val) = decide ((97 ≤ n.val ∧ n.val ≤ 122) ∨ (48 ≤ n.val ∧ n.val ≤ 57)) := by decide
  have h2 := h ⟨b.toNat, b.toNat_lt⟩
  simp only [UInt8.ofNat_toNat] at h2
  rw [h2, decide_eq_true_eq]
theorem dw_nil (p : UInt8 → Bool) : ∀ l : List UInt8, l.dropWhile p = [] ↔ ∀ x ∈ l, p x = true
  | [] => by simp
  | a :: l => by
    by_cases h : p a = true
    · rw [List.dropWhile_cons_of_pos h, dw_nil p l]; simp [h]
    · rw [List.dropWhile_cons_of_neg h]; simp [h]
theorem dw_head (p : UInt8 → Bool) : ∀ (l : List UInt8) (x : UInt8) (r : List UInt8), l.dropWhile p = x :: r → p x = false
  | [], x, r, h => by simp at h
  | a :: l, x, r, h => by
    by_cases ha : p a = true
    · rw [List.dropWhile_cons_of_pos ha] at h; exact dw_head p l x r h
    · rw [List.dropWhile_cons_of_neg ha] at h
      injection h with h1 h2
      subst h1; simpa using ha
theorem trim_nil (l cs : List UInt8) : Lib.trimS l cs = [] ↔ l.all (cs.contains ·) = true := by
  unfold Lib.trimS Lib.trimLeftS Lib.trimRightS
  rw [dw_nil, List.all_eq_true]
  constructor
  · intro h
    cases hm : l.reverse.dropWhile (cs.contains ·) with
    | nil => rw [dw_nil] at hm; exact fun x hx => hm x (List.mem_reverse.2 hx)
    | cons x r =>
      have h1 := dw_head _ _ _ _ hm
      rw [hm] at h
      have h2 := h x (by simp)
      rw [h1] at h2; cases h2
  · intro h
    have : l.reverse.dropWhile (cs.contains ·) = [] := by rw [dw_nil]; exact fun x hx => h x (List.mem_reverse.1 hx)
    rw [this]; simp
theorem idx_none {s : ByteArray} (h : ∀ b ∈ s.data.toList, b.toNat < 123) : ∀ (f pos : Nat), Lib.idxFuncFrom (fun r => decide (122 < r)) true s f pos = -1
  | 0, _ => rfl
  | f + 1, pos => by
    unfold Lib.idxFuncFrom
    split
    · rename_i hp
      have hg : (s.get! (pos + 0)) = s.data[pos]'hp := by
        show s.data[pos + 0]! = _
        rw [Nat.add_zero, getElem!_pos s.data pos hp]
      have hb := h (s.data[pos]'hp) (by simp)
      have hd : Utf8.decode s pos = ((s.data[pos]'hp).toNat, 1) := by
        unfold Utf8.decode
        simp only [hg]
        rw [if_pos (by omega)]
      rw [hd, if_neg (by simp; omega)]
      exact idx_none h f _
    · rfl
theorem name_all {s : ByteArray} (h : s.data.toList.all okC = true) : decide (0 ≤ Lib.idxFunc (fun r => decide (122 < r)) true s) = false := by
  unfold Lib.idxFunc
  rw [idx_none]
  · rfl
  · intro b hb
    have := (okC_iff b).1 (List.all_eq_true.1 h b hb)
    omega
theorem take_all {s : ByteArray} {k : Nat} (hk : k < s.size) : (s.data.toList.take (k + 1)).all okC = ((s.data.toList.take k).all okC && okC (s.get! k)) := by
  have hg : s.get! k = s.data[k]'hk := by
    show s.data[k]! = _
    rw [getElem!_pos s.data k hk]
  rw [hg, List.take_add_one, List.all_append]
  have : s.data.toList[k]? = some (s.data[k]'hk) := by rw [Array.getElem?_toList]; exact Array.getElem?_eq_getElem hk
  rw [this]; simp
end Go.Proofs.YtkdfhackpmdgfaaGreatDoor
