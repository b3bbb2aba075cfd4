/- The effects of the first steps in the opposite order: the program's down. -/
import Derived.Test.YthmkfbabacehnaaDoorUp
import Derived.Test.YthmkfbabacehnaaDoorRowK
import Derived.Test.YthmkfbabacehnaaDoorShelf
namespace Go.Proofs.YthmkfbabacehnaaDoor
open Go.RowKit
set_option linter.unusedSimpArgs false
set_option linter.unusedVariables false
set_option linter.unusedSectionVars false
set_option maxRecDepth 10000
theorem own_some {w W : World} {A : Option Addr} {n c : Nat} {l : List Ef} (h : OwnE w A n c l W) (hn : 0 < n) : ∃ g, A = some ⟨g, 0, none⟩ ∧ w.heap.size ≤ g ∧ g < W.heap.size := by
  rcases h.own.2 with ⟨_, e⟩ | ⟨g, cp, cur, e, hb, hh, _⟩
  · omega
  · simp only [Value.slice.injEq, true_and] at e
    exact ⟨g, e.1, hb, (Array.getElem?_eq_some_iff.1 hh).1⟩
/-- slices.Reverse of a row of the call's own. -/
theorem reverse_any {w W : World} {A : Option Addr} {n c : Nat} {l : List Ef} (h : OwnE w A n c l W) (hn : n ≤ 1000000) :
    Calls Tryd.prog 54 #[.slice A n c] W fun e w' => e = .returned (.tuple #[]) ∧ OwnE w A n c l.reverse w' := by
  rcases Nat.eq_zero_or_pos n with h0 | h0
  · subst h0
    have hl : l = [] := List.eq_nil_of_length_eq_zero h.len
    subst hl
    refine (Tryd.slices_Reverse_E_empty A c W).mono ?_
    rintro e w' ⟨rfl, rfl⟩
    exact ⟨rfl, h⟩
  · obtain ⟨g, rfl, hg, hlt⟩ := own_some h h0
    have hsz : l.toArray.size = n := by simp [h.len]
    have hc := Tryd.slices_Reverse_E encE encE_len encE_one g 0 c l.toArray W (holdsK_of_own encE_len (by omega) h.own h.len) (by rw [hsz]; omega)
    rw [hsz] at hc
    refine hc.mono ?_
    rintro e w' ⟨rfl, q, rfl⟩
    rw [show l.toArray.reverse = l.reverse.toArray from by simp]
    exact ⟨rfl, h.bel.grown (grownBy_putRowK _) h.bel.size (fun k e => by cases e; exact hg), own_putRowK encE_len (by omega) h.own (by simp [h.len]), by simp [h.len], h.cap⟩
set_option maxHeartbeats 8000000 in
theorem down_any (s p : Int) (k : Nat) (hk : k ≤ 100) (w : World) : Calls Tryd.prog 41 #[.int .i64 s, .int .i64 k, .int .i64 p] w fun e w' => ∃ A c, e = .returned (.slice A k c) ∧ OwnE w A k c (ups s k p).reverse w' := by
  go_enter Tryd.func41, Tryd.ntmps41
  go_wp2_with (fail)
  refine (up_any s p k hk w).mono ?_
  rintro e w1 ⟨A, c, rfl, h1⟩
  have hR := reverse_any h1 (by omega)
  replace h1 := Lib.hid h1
  go_wp2_with (fail)
  refine hR.mono ?_
  rintro e w2 ⟨rfl, h2⟩
  replace h2 := Lib.hid h2
  clear hR h1
  go_wp2_with (fail)
  go_ret
  exact ⟨A, c, rfl, h2.out⟩
end Go.Proofs.YthmkfbabacehnaaDoor
