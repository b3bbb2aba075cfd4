/- The program's reader: contracts of Read, Uint, Int, Text and Bool. -/
import Derived.Test.YtlinjanflenljaaGreatDoorReader
namespace Go.Proofs.YtlinjanflenljaaGreatDoor
open Go.RowKit
set_option linter.unusedSimpArgs false
set_option linter.unusedVariables false
set_option linter.unusedSectionVars false
set_option maxRecDepth 10000
theorem rdU_none : rdU none = (0, none) := rfl
theorem rdU_bad {b : List UInt8} (h : dec b = none) : rdU (some b) = (0, none) := by simp [rdU, h]
theorem rdU_ok {b : List UInt8} {v k : Nat} (h : dec b = some (v, k)) : rdU (some b) = (v, some (b.drop k)) := by simp [rdU, h]
theorem dec_or (b : List UInt8) : dec b = none ∨ ∃ v k, dec b = some (v, k) := by
  cases dec b with
  | none => exact .inl rfl
  | some r => exact .inr ⟨r.1, r.2, rfl⟩
def strOf (l : List UInt8) : ByteArray := ⟨l.toArray⟩
/-- Each kind of value: the value that is read, and what is left. -/
theorem rdT_none : rdT none = ([], none) := rfl
theorem rdT_bad {b : List UInt8} (h : dec b = none) : rdT (some b) = ([], none) := by simp [rdT, rdU, h]
theorem rdT_big {b : List UInt8} {v k : Nat} (h : dec b = some (v, k)) (hb : 65536 < v ∨ b.length - k < v) : rdT (some b) = ([], none) := by
  simp only [rdT, rdU, h]; rw [if_pos (by rw [List.length_drop]; exact hb)]
theorem rdT_ok {b : List UInt8} {v k : Nat} (h : dec b = some (v, k)) (hb : ¬ (65536 < v ∨ b.length - k < v)) : rdT (some b) = ((b.drop k).take v, some (b.drop (k + v))) := by
  simp only [rdT, rdU, h]; rw [if_neg (by rw [List.length_drop]; exact hb), List.drop_drop]
theorem rdB_none : rdB none = (false, none) := rfl
theorem rdB_bad {b : List UInt8} (h : dec b = none) : rdB (some b) = (false, none) := by simp [rdB, rdU, h]
theorem rdB_big {b : List UInt8} {v k : Nat} (h : dec b = some (v, k)) (hb : 1 < v) : rdB (some b) = (false, none) := by simp [rdB, rdU, h, hb]
theorem rdB_ok {b : List UInt8} {v k : Nat} (h : dec b = some (v, k)) (hb : ¬ 1 < v) : rdB (some b) = (v == 1, some (b.drop k)) := by simp [rdB, rdU, h, hb]
theorem rdI_eq (s : RS) : rdI s = (zag (rdU s).1, (rdU s).2) := rfl
section
variable {w : World} {g c : Nat} {A : Option Addr}
theorem take_uint64 (s : RS) (h : IsRd w g A c s) : Calls Tryz.prog 107 #[.pointer (some ⟨g, 0, none⟩), .func (.func 108) #[] #[]] w fun e w' => e = .returned (.int .u64 (rdU s).1) ∧ RdTo w g (rdU s).2 w' := by
  match s, h with
  | none, h => exact take_uint64_none h
  | some b, h =>
    rcases dec_or b with hd | ⟨v, k, hd⟩
    · rw [rdU_bad hd]; exact take_uint64_bad b h (by rw [hd]; rfl)
    · have hs := dec_sound hd
      rw [rdU_ok hd]; exact take_uint64_ok b h (.int .u64 v) k (by rw [hd]; rfl) hs.2.2.1 hs.2.2.2.1
set_option maxHeartbeats 1000000 in
theorem rdUint_any (s : RS) (h : IsRd w g A c s) : Calls Tryz.prog 54 #[.pointer (some ⟨g, 0, none⟩)] w fun e w' => e = .returned (.int .u64 (rdU s).1) ∧ RdTo w g (rdU s).2 w' := by
  go_enter Tryz.func54, Tryz.ntmps54
  go_wp2_with (go_at_call 107; refine (take_uint64 s h).mono ?_; rintro e w1 ⟨rfl, ht⟩)
  go_ret
  exact ⟨rfl, ht⟩
theorem take_string (s : RS) (h : IsRd w g A c s) : Calls Tryz.prog 114 #[.pointer (some ⟨g, 0, none⟩), .func (.func 115) #[] #[]] w fun e w' => e = .returned (.string (strOf (rdT s).1)) ∧ RdTo w g (rdT s).2 w' := by
  match s, h with
  | none, h => exact take_string_none h
  | some b, h =>
    rcases dec_or b with hd | ⟨v, k, hd⟩
    · rw [rdT_bad hd]; exact take_string_bad b h (by unfold textV; rw [hd])
    · have hs := dec_sound hd
      by_cases hb : 65536 < v ∨ b.length - k < v
      · rw [rdT_big hd hb]; exact take_string_bad b h (by unfold textV; rw [hd]; exact if_pos hb)
      · rw [rdT_ok hd hb]; exact take_string_ok b h _ (k + v) (by unfold textV; rw [hd]; exact if_neg hb) (by omega) (by omega)
set_option maxHeartbeats 1000000 in
theorem rdText_any (s : RS) (h : IsRd w g A c s) : Calls Tryz.prog 83 #[.pointer (some ⟨g, 0, none⟩)] w fun e w' => e = .returned (.string (strOf (rdT s).1)) ∧ RdTo w g (rdT s).2 w' := by
  go_enter Tryz.func83, Tryz.ntmps83
  go_wp2_with (go_at_call 114; refine (take_string s h).mono ?_; rintro e w1 ⟨rfl, ht⟩)
  go_ret
  exact ⟨rfl, ht⟩
end
set_option maxHeartbeats 1000000 in
theorem read_any {A : Option Addr} {n c : Nat} {xs : List UInt8} {w : World} (h : RB w A n xs) (hn : n ≤ 70368744177664) : Calls Tryz.prog 28 #[.slice A n c] w fun e w' => ∃ g A' c', e = .returned (.pointer (some ⟨g, 0, none⟩)) ∧ w.heap.size ≤ g ∧ IsRd w' g A' c' (some xs) ∧ (∀ k, rowOf A' = some k → w.heap.size ≤ k) ∧ Below w.heap.size w w' := by
  have hl := Lib.hid h.1
  go_enter Tryz.func28, Tryz.ntmps28
  go_wp2_with (go_at_call 53; refine (clone_any h c (by omega)).mono ?_; rintro e w1 ⟨A1, c1, rfl, o1, b1⟩)
  go_ret
  refine ⟨w1.heap.size, A1, c1, rfl, b1.size, ⟨?_, ?_, ?_, ?_, ?_, fun k hk => (o1.lt k (by rw [own_rowOf]; exact hk)).2⟩, ?_, b1.trans (((Below.refl _ w1).alloc (Nat.le_refl _) _).mono b1.size)⟩
  · have hq := heap_alloc_new w1 (.cells #[.bool true, .bool false, .slice A1 n c1] 91)
    have hl := hl.out
    subst hl
    exact hq
  · have hq := (RB.of_own o1).below ((Below.refl _ w1).alloc (Nat.le_refl _) (.cells #[.bool true, .bool false, .slice A1 n c1] 91))
    simp only [left]
    rw [hl.out]
    exact hq
  · simp only [left]
    rw [hl.out]
    rcases o1.2 with ⟨e, e2⟩ | ⟨k, cp, cur, e, _, _, hle, _⟩
    · omega
    · simp only [Value.slice.injEq] at e
      omega
  · simp only [left]
    rw [hl.out]; exact hn
  · simp only [left]
    rw [hl.out]
    exact (RowTy.of_own o1).keepR (S := fun _ => False) (Chg.of_below ((Below.refl _ w1).alloc (Nat.le_refl _) _) _) fun _ _ q => q
  · intro k hk
    exact (o1.lt k (by rw [own_rowOf]; exact hk)).1
end Go.Proofs.YtlinjanflenljaaGreatDoor
