/- The program's writer: contracts of New, Int, Text, Bool, Len and Bytes. -/
import Derived.Test.YtlinjanflenljaaGreatDoorUint
import Derived.Test.YtlinjanflenljaaGreatDoorMem
import Derived.Test.YtlinjanflenljaaGreatDoorClone
import Derived.WalkSpells
import Derived.WalkLawsBesides
namespace Go.Proofs.YtlinjanflenljaaGreatDoor
open Go.RowKit
set_option linter.unusedSimpArgs false
set_option linter.unusedVariables false
set_option linter.unusedSectionVars false
set_option maxRecDepth 10000
attribute [local go_sem ↓] hideAppend

set_option maxHeartbeats 1000000 in
theorem wNew_any (w : World) : Calls Tryz.prog 93 #[] w fun e w' => e = .returned (.pointer (some ⟨w.heap.size, 0, none⟩)) ∧ w' = w.alloc (.cells #[.bool true, .slice none 0 0] 123) := by
  go_enter Tryz.func93, Tryz.ntmps93
  go_wp2
  go_ret
  exact ⟨rfl, rfl⟩
section
variable (g : Nat) (A : Option Addr) (c : Nat) (xs : List UInt8) (w : World) (h : IsWr 123 w g A c xs) (hl : xs.length ≤ 1000000000)
include h hl
/-- What Bytes returns: a row of its own. -/
def IsBytes (w : World) (A : Option Addr) (c : Nat) (xs : List UInt8) (w' : World) : Prop := w'.ownsRow w.heap.size 5 1 (.slice A xs.length c) xs.length (bvs xs) ∧ Below w.heap.size w w'
set_option maxHeartbeats 1000000 in
theorem wBytes_any :
    Calls Tryz.prog 94 #[.pointer (some ⟨g, 0, none⟩)] w fun e w' => ∃ A' c', e = .returned (.slice A' xs.length c') ∧ IsBytes w A' c' xs w' := by
  have c1 := h.c1
  go_enter Tryz.func94, Tryz.ntmps94
  go_wp2_with (go_at_call 53; refine (clone_any (RB.of_own h.own) c (by omega)).mono ?_; rintro e w1 ⟨A1, k1, rfl, o1, b1⟩)
  go_ret
  exact ⟨A1, k1, rfl, o1, b1⟩
set_option maxHeartbeats 1000000 in
theorem wText_any (s : ByteArray) (hs : s.size ≤ 1000000000) :
    Calls Tryz.prog 79 #[.pointer (some ⟨g, 0, none⟩), .string s] w fun e w' => e = .returned (.tuple #[]) ∧ WrTo 123 w g A (xs ++ enc s.size ++ s.data.toList) w' := by
  go_enter Tryz.func79, Tryz.ntmps79
  go_wp2_with (go_at_call 68; refine (wUint_any g A c xs s.size _ h (by omega) hl).mono ?_; rintro e w1 ⟨rfl, A1, c1, i1, m1, k1⟩; have d0 := i1.c0; have d1 := i1.c1; have e1 := i1.fz 1; obtain ⟨A2, c2, w2, hrun, hto, hb2⟩ := i1.pushStr (w := w) (A0 := A) (by decide) m1 k1 s (by have := enc_len (n := s.size) (by omega); simp only [List.length_append]; omega); have d2 : w2.cell? ⟨g, 1, none⟩ = some (.slice A1 (xs ++ enc s.size).length c1) := blkC (hb2.trans i1.blk) 1; have e2 : w2.frozen? ⟨g, 1, none⟩ = false := blkF (hb2.trans i1.blk) 1; have hto := Lib.hid hto; have hb2 := Lib.hid hb2; generalize (xs ++ enc s.size ++ s.data.toList).length = n2 at *; generalize (xs ++ enc s.size).length = n1 at *)
  go_end0
  exact ⟨rfl, hto.out⟩
end
end Go.Proofs.YtlinjanflenljaaGreatDoor
