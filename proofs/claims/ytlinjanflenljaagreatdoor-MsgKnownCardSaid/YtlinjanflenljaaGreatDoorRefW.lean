/- The reference's writer: contracts. -/
import Derived.Test.YtlinjanflenljaaGreatDoorMem
import Derived.Deep.QuietTactic
import Derived.BigQuiet
import Derived.WalkSpells
import Derived.WalkLawsBesides
namespace Go.Proofs.YtlinjanflenljaaGreatDoor
open Go.RowKit
set_option linter.unusedSimpArgs false
set_option linter.unusedVariables false
set_option linter.unusedSectionVars false
set_option maxRecDepth 10000
attribute [local go_sem ↓] hideAppend

/-- A row of bytes that a call has made. -/
def MadeRow (w : World) (A : Option Addr) (c : Nat) (xs : List UInt8) (w' : World) : Prop := w'.ownsRow w.heap.size 5 1 (.slice A xs.length c) xs.length (bvs xs) ∧ Below w.heap.size w w'
theorem byte_of_int {n : Nat} (h : n < 256) : bv (UInt8.ofNat n) = .int .u8 (n : Int) := by unfold bv; rw [ofNat_toNat h]
theorem madeRow_one (w : World) (c : UInt8) : MadeRow w (some ⟨w.heap.size, 0, none⟩) 1 [c] (w.alloc (.cells #[bv c] 5)) :=
  ⟨⟨by simp [bvs], .inr ⟨w.heap.size, 1, #[bv c], rfl, Nat.le_refl _, heap_alloc_new w _, by simp, by unfold maxLen; omega, by simp, by simp [bvs]⟩⟩, (Below.refl _ _).alloc (Nat.le_refl _) _⟩
/-- A row of the call's own, and behind it the bytes of a second one. -/
theorem madeRow_join {w w1 : World} {g c d : Nat} {B : Option Addr} {xs ys : List UInt8} (hg : w.heap.size ≤ g) (hx : w1.ownsRow w.heap.size 5 1 (.slice (some ⟨g, 0, none⟩) xs.length c) xs.length (bvs xs)) (hb : Below w.heap.size w w1)
    (hy : RB w1 B ys.length ys) (hl : xs.length + ys.length ≤ 70368744177664) :
    ∃ A' c' w2, (appSem #[22, 22] 22 #[.slice (some ⟨g, 0, none⟩) xs.length c, .slice B ys.length d]).run Tryz.prog w1 = .ok (.slice A' (xs ++ ys).length c') w2 ∧ MadeRow w A' c' (xs ++ ys) w2 := by
  obtain ⟨A', c', w2, hrun, hown, hgr, hat⟩ := append_rb (d := d) hx hb.size hy hl
  exact ⟨A', c', w2, hrun, hown, hb.grown hgr hb.size fun k e => by have e : g = k := Option.some.inj e; omega⟩
theorem MadeRow.keep {w w' w1 : World} {A : Option Addr} {c : Nat} {xs : List UInt8} (h : MadeRow w A c xs w1) (hb : Below w1.heap.size w1 w') : MadeRow w A c xs w' := by
  refine ⟨⟨h.1.1, ?_⟩, h.2.trans (hb.mono h.2.size)⟩
  rcases h.1.2 with e | ⟨k, cp, cur, e, hbk, hh, rest⟩
  · exact .inl e
  · exact .inr ⟨k, cp, cur, e, hbk, (hb.block k (blkX hh)).trans hh, rest⟩
set_option maxHeartbeats 1000000 in
theorem number_any (m : Nat) : ∀ w : World, m < 18446744073709551616 → Calls Tryz.prog 90 #[.int .u64 m] w fun e w' => ∃ A c, e = .returned (.slice A (enc m).length c) ∧ MadeRow w A c (enc m) w' := by
  induction m using Nat.strongRecOn with
  | _ m ih =>
    intro w hm
    by_cases hlt : m < 128
    · have hb := byte_of_int (n := m) (by omega)
      have he := Lib.hid (enc_lt hlt)
      have hr := madeRow_one w (UInt8.ofNat m)
      rw [hb] at hr
      have hr := Lib.hid hr
      clear hb
      go_enter Tryz.func90, Tryz.ntmps90
      go_wp2_with (fail)
      go_ret
      refine ⟨_, 1, ?_, by rw [he.out]; exact hr.out⟩
      rw [he.out]; rfl
    · have hb := byte_of_int (n := m % 128 + 128) (by omega)
      have he := Lib.hid (enc_ge (n := m) (by omega))
      have ih2 := fun W => ih (m / 128) (by omega) W (by omega)
      have ih2 := Lib.hid ih2
      clear ih
      go_enter Tryz.func90, Tryz.ntmps90
      have hr := madeRow_one w (UInt8.ofNat (m % 128 + 128))
      rw [hb] at hr
      rw [show ((m % 128 + 128 : Nat) : Int) = (m : Int) % 128 + 128 from by omega] at hr
      clear hb
      go_wp2_with (go_at_call 90; rw [show ((m : Int) / 128) = ((m / 128 : Nat) : Int) from by omega]; refine (ih2.out _).mono ?_; rintro e w1 ⟨A1, c1, rfl, r1⟩; obtain ⟨A2, c2, w2, hrun, r2⟩ := madeRow_join (d := c1) (ys := enc (m / 128)) (Nat.le_refl _) (hr.keep (r1.2)).1 (hr.keep r1.2).2 (RB.of_own r1.1) (by have := enc_len (n := m / 128) (by omega); simp; omega); simp only [List.length_singleton] at hrun)
      go_ret
      exact ⟨A2, c2, by rw [he.out]; rfl, by rw [he.out]; exact r2⟩

theorem valid_nil (w : World) : Calls Tryz.prog 121 #[.pointer none] w fun e w' => e = .returned (.bool false) ∧ w = w' := by
  go_enter Tryz.func121, Tryz.ntmps121
  go_wp2
  go_ret
  exact ⟨rfl, rfl⟩
theorem valid_zero (g : Nat) (w : World) (h : w.cell? ⟨g, 0, none⟩ = some (.bool false)) : Calls Tryz.prog 121 #[.pointer (some ⟨g, 0, none⟩)] w fun e w' => e = .returned (.bool false) ∧ w = w' := by
  go_enter Tryz.func121, Tryz.ntmps121
  go_wp2
  go_ret
  exact ⟨rfl, rfl⟩
theorem isWr_new (T : TypeId) (w : World) : IsWr T (w.alloc (.cells #[.bool true, .slice none 0 0] T)) w.heap.size none 0 [] := ⟨heap_alloc_new w _, World.ownsRow_nil _ _ _ _⟩
set_option maxHeartbeats 1000000 in
theorem rNew_any (w : World) : Calls Tryz.prog 99 #[] w fun e w' => e = .returned (.pointer (some ⟨w.heap.size, 0, none⟩)) ∧ w' = w.alloc (.cells #[.bool true, .slice none 0 0] 133) := by
  go_enter Tryz.func99, Tryz.ntmps99
  go_wp2
  go_ret
  exact ⟨rfl, rfl⟩
section
variable (g : Nat) (A : Option Addr) (c : Nat) (xs : List UInt8) (w : World) (h : IsWr 133 w g A c xs) (hl : xs.length ≤ 1100000000)
include h
set_option maxHeartbeats 1000000 in
theorem valid_wr : Calls Tryz.prog 121 #[.pointer (some ⟨g, 0, none⟩)] w fun e w' => e = .returned (.bool true) ∧ w = w' := by
  have c0 := h.c0
  go_enter Tryz.func121, Tryz.ntmps121
  go_wp2
  go_ret
  exact ⟨rfl, rfl⟩
include hl
set_option maxHeartbeats 1000000 in
theorem add_any {B : Option Addr} {m d : Nat} {ys : List UInt8} (hr : RB w B m ys) (hm : m ≤ 1000000000) :
    Calls Tryz.prog 120 #[.pointer (some ⟨g, 0, none⟩), .slice B m d] w fun e w' => e = .returned (.tuple #[]) ∧ WrTo 133 w g A (xs ++ ys) w' := by
  have c1 := h.c1
  obtain ⟨A2, c2, w2, hrun, hto, hb2⟩ := h.pushAny (w := w) (A0 := A) (d := d) (by decide) (Moved.refl w A) (Chg.refl _ w) hr (by omega)
  have d1 : w2.cell? ⟨g, 1, none⟩ = some (.slice A xs.length c) := blkC (hb2.trans h.blk) 1
  have e1 : w2.frozen? ⟨g, 1, none⟩ = false := blkF (hb2.trans h.blk) 1
  have hto := Lib.hid hto
  have hb2 := Lib.hid hb2
  generalize (xs ++ ys).length = n2 at *
  go_enter Tryz.func120, Tryz.ntmps120
  go_wp2_with (go_at_call 121; refine (valid_wr g A c xs _ h).mono ?_; rintro e w' ⟨rfl, rfl⟩)
  go_end0
  exact ⟨rfl, hto.out⟩
end
end Go.Proofs.YtlinjanflenljaaGreatDoor
