/- The program's writer: contracts of New, Int, Text, Bool, Len and Bytes. -/
import Derived.Test.YtcapeefhbkgogaaUint
import Derived.Test.YtcapeefhbkgogaaMem
import Derived.Test.YtcapeefhbkgogaaZig
import Derived.Test.YtcapeefhbkgogaaClone
import Derived.WalkSpells
import Derived.WalkLawsBesides
namespace Go.Proofs.Ytcapeefhbkgogaa
open Go.RowKit
set_option linter.unusedSimpArgs false
set_option linter.unusedVariables false
set_option linter.unusedSectionVars false
set_option maxRecDepth 10000
attribute [local go_sem ↓] hideAppend

set_option maxHeartbeats 1000000 in
theorem wNew_any (w : World) : Calls Try.prog 14 #[] w fun e w' => e = .returned (.pointer (some ⟨w.heap.size, 0, none⟩)) ∧ w' = w.alloc (.cells #[.bool true, .slice none 0 0] 46) := by
  go_enter Try.func14, Try.ntmps14
  go_wp2
  go_ret
  exact ⟨rfl, rfl⟩
section
variable (g : Nat) (A : Option Addr) (c : Nat) (xs : List UInt8) (w : World) (h : IsWr 46 w g A c xs) (hl : xs.length ≤ 1000000)
include h hl
set_option maxHeartbeats 1000000 in
theorem wInt_any (a : Int) (h1 : -9223372036854775808 ≤ a) (h2 : a ≤ 9223372036854775807) :
    Calls Try.prog 31 #[.pointer (some ⟨g, 0, none⟩), .int .i64 a] w fun e w' => e = .returned (.tuple #[]) ∧ WrTo 46 w g A (xs ++ enc (zig a)) w' := by
  have hz := zig_lt h1 h2
  go_enter Try.func31, Try.ntmps31
  go_wp2_with (first
    | (go_at_call 57; refine (zig_any _ h1 h2 _).mono ?_; rintro e w' ⟨rfl, rfl⟩)
    | (go_at_call 30; refine (wUint_any g A c xs _ _ h hz hl).mono ?_; rintro e w' ⟨rfl, hw⟩))
  go_end0
  exact ⟨rfl, hw⟩
set_option maxHeartbeats 1000000 in
theorem wBool_any (b : Bool) :
    Calls Try.prog 33 #[.pointer (some ⟨g, 0, none⟩), .bool b] w fun e w' => e = .returned (.tuple #[]) ∧ WrTo 46 w g A (xs ++ enc (if b then 1 else 0)) w' := by
  have h1 : Hid (enc 1 = enc 1) := rfl
  cases b
  · go_enter Try.func33, Try.ntmps33
    go_wp2_with (go_at_call 30; refine (wUint_any g A c xs 0 _ h (by omega) hl).mono ?_; rintro e w' ⟨rfl, hw⟩)
    go_end0
    exact ⟨rfl, hw⟩
  · go_enter Try.func33, Try.ntmps33
    go_wp2_with (go_at_call 30; refine (wUint_any g A c xs 1 _ h (by omega) hl).mono ?_; rintro e w' ⟨rfl, hw⟩)
    go_end0
    exact ⟨rfl, hw⟩
set_option maxHeartbeats 1000000 in
theorem wLen_any :
    Calls Try.prog 17 #[.pointer (some ⟨g, 0, none⟩)] w fun e w' => e = .returned (.int .i64 xs.length) ∧ w = w' := by
  have c1 := h.c1
  go_enter Try.func17, Try.ntmps17
  go_wp2
  go_ret
  exact ⟨rfl, rfl⟩
/-- What Bytes returns: a row of its own. -/
def IsBytes (w : World) (A : Option Addr) (c : Nat) (xs : List UInt8) (w' : World) : Prop := w'.ownsRow w.heap.size 5 1 (.slice A xs.length c) xs.length (bvs xs) ∧ Below w.heap.size w w'
set_option maxHeartbeats 1000000 in
theorem wBytes_any :
    Calls Try.prog 20 #[.pointer (some ⟨g, 0, none⟩)] w fun e w' => ∃ A' c', e = .returned (.slice A' xs.length c') ∧ IsBytes w A' c' xs w' := by
  have c1 := h.c1
  go_enter Try.func20, Try.ntmps20
  go_wp2_with (go_at_call 22; refine (clone_any (RB.of_own h.own) c (by omega)).mono ?_; rintro e w1 ⟨A1, k1, rfl, o1, b1⟩)
  go_ret
  exact ⟨A1, k1, rfl, o1, b1⟩
set_option maxHeartbeats 1000000 in
theorem wText_any (s : ByteArray) (hs : s.size ≤ 1000000) :
    Calls Try.prog 32 #[.pointer (some ⟨g, 0, none⟩), .string s] w fun e w' => e = .returned (.tuple #[]) ∧ WrTo 46 w g A (xs ++ enc s.size ++ s.data.toList) w' := by
  go_enter Try.func32, Try.ntmps32
  go_wp2_with (go_at_call 30; refine (wUint_any g A c xs s.size _ h (by omega) hl).mono ?_; rintro e w1 ⟨rfl, A1, c1, i1, m1, k1⟩; have d0 := i1.c0; have d1 := i1.c1; have e1 := i1.fz 1; obtain ⟨A2, c2, w2, hrun, hto, hb2⟩ := i1.pushStr (w := w) (A0 := A) (by decide) m1 k1 s (by have := enc_len (n := s.size) (by omega); simp only [List.length_append]; omega); have d2 : w2.cell? ⟨g, 1, none⟩ = some (.slice A1 (xs ++ enc s.size).length c1) := blkC (hb2.trans i1.blk) 1; have e2 : w2.frozen? ⟨g, 1, none⟩ = false := blkF (hb2.trans i1.blk) 1; have hto := Lib.hid hto; have hb2 := Lib.hid hb2; generalize (xs ++ enc s.size ++ s.data.toList).length = n2 at *; generalize (xs ++ enc s.size).length = n1 at *)
  go_end0
  exact ⟨rfl, hto.out⟩
end
end Go.Proofs.Ytcapeefhbkgogaa
