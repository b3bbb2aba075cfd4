/- The reference's writer: contracts of Uint, Int, Text, Bool, Bytes and Len. -/
import Derived.Test.YtlinjanflenljaaGreatDoorRefW
import Derived.Laws.IdiomStrings
namespace Go.Proofs.YtlinjanflenljaaGreatDoor
open Go.RowKit
set_option linter.unusedSimpArgs false
set_option linter.unusedVariables false
set_option linter.unusedSectionVars false
set_option maxRecDepth 10000
attribute [local go_sem ↓] hideAppend

theorem WrTo.after {T : TypeId} {w w1 w2 : World} {g : Nat} {A A1 : Option Addr} {ys : List UInt8} (hm : Moved w A A1) (hc : Chg (wrS g A) w w1) (h : WrTo T w1 g A1 ys w2) : WrTo T w g A ys w2 := by
  obtain ⟨A2, c2, i2, m2, k2⟩ := h
  refine ⟨A2, c2, i2, ?_, hc.trans k2 ?_⟩
  · rcases m2 with e | ⟨k, e, hk⟩
    · rcases hm with e1 | ⟨k, e1, hk⟩
      · exact .inl (e.trans e1)
      · exact .inr ⟨k, e.trans e1, hk⟩
    · exact .inr ⟨k, e, Nat.le_trans hc.size hk⟩
  · intro k hk e
    rcases e with e | e
    · exact .inl e
    · rcases hm with e1 | ⟨k', e1, hk'⟩
      · exact .inr (e1.symm.trans e)
      · rw [e] at e1; injection e1 with e1; omega
theorem WrTo.belowThen {T : TypeId} {w w1 w2 : World} {g : Nat} {A : Option Addr} {ys : List UInt8} (hb : Below w.heap.size w w1) (h : WrTo T w1 g A ys w2) : WrTo T w g A ys w2 :=
  WrTo.after (Moved.refl w A) (Chg.of_below hb _) h
/-- []byte(s). -/
theorem str_bytes (s : ByteArray) (W : World) : ∃ c W1, (convert 9 22 (.string s)).run Tryz.prog W = .ok (.slice (some ⟨W.heap.size, 0, none⟩) s.size c) W1 ∧ RB W1 (some ⟨W.heap.size, 0, none⟩) s.size s.data.toList ∧ Below W.heap.size W W1 := by
  refine ⟨_, _, run_bytes_of_string W 9 22 5 s Tryz.underlying9 Tryz.underlying22 Tryz.underlying5, ⟨by rw [Array.length_toList]; rfl, fun _ => ⟨_, rfl, by simp, ?_⟩⟩, ((Below.refl _ W).drew).alloc (Nat.le_refl _) _⟩
  intro j u hu
  have hj : j < s.size := by
    have := (List.getElem?_eq_some_iff.1 hu).1
    rw [bvs_length, Array.length_toList] at this
    exact this
  rw [Addr.add_lit]
  refine (World.cell?_alloc_mark W.drew _ _ _ _).trans ?_
  unfold bytesRow
  rw [Nat.zero_add, Array.getElem?_append_left (by simpa using hj)]
  rw [← hu]
  simp [bvs]
  rfl
section
variable (g : Nat) (A : Option Addr) (c : Nat) (xs : List UInt8) (w : World) (h : IsWr 133 w g A c xs) (hl : xs.length ≤ 1000000000)
include h hl
set_option maxHeartbeats 1000000 in
theorem rUint_any (m : Nat) (hm : m < 18446744073709551616) :
    Calls Tryz.prog 100 #[.pointer (some ⟨g, 0, none⟩), .int .u64 m] w fun e w' => e = .returned (.tuple #[]) ∧ WrTo 133 w g A (xs ++ enc m) w' := by
  have hlen := enc_len hm
  go_enter Tryz.func100, Tryz.ntmps100
  go_wp2_with (first
    | (go_at_call 90; refine (number_any m _ hm).mono ?_; rintro e w1 ⟨A1, c1, rfl, r1⟩)
    | (go_at_call 120; refine (add_any g A c xs _ (h.below r1.2) (by omega) (RB.of_own r1.1) (by omega)).mono ?_; rintro e w2 ⟨rfl, t2⟩))
  go_end0
  exact ⟨rfl, t2.belowThen r1.2⟩
set_option maxHeartbeats 1000000 in
theorem rBytes_any (hl : xs.length ≤ 70368744177664) :
    Calls Tryz.prog 102 #[.pointer (some ⟨g, 0, none⟩)] w fun e w' => ∃ A' c', e = .returned (.slice A' xs.length c') ∧ MadeRow w A' c' xs w' := by
  have c1 := h.c1
  go_enter Tryz.func102, Tryz.ntmps102
  have hx := h.lt
  have hbw : Below w.heap.size w (w.alloc (.cells #[] 5)) := (Below.refl _ _).alloc (Nat.le_refl _) _
  obtain ⟨A2, c2, w2, hrun, hown, hgr, _⟩ := append_rb (W := w.alloc (.cells #[] 5)) (base := w.heap.size) (c := 0) (A := some ⟨w.heap.size, 0, none⟩) (xs := []) (d := c) (World.ownsRow_made w #[] 0 (Nat.le_refl _) (Nat.zero_le _) rfl) (by simp) ((RB.of_own h.own).below hbw) (by simp; omega)
  have hrun := (show (appSem #[22, 22] 22 #[.slice (some ⟨w.heap.size, 0, none⟩) 0 0, .slice A xs.length c]).run Tryz.prog (w.alloc (.cells #[] 5)) = .ok (.slice A2 xs.length c2) w2 from hrun)
  go_wp2_with (go_at_call 121; refine (valid_wr g A c xs _ h).mono ?_; rintro e w' ⟨rfl, rfl⟩)
  go_ret
  exact ⟨A2, c2, rfl, hown, hbw.grown hgr (by simp) fun k e => by have e : w.heap.size = k := Option.some.inj e; omega⟩
set_option maxHeartbeats 1000000 in
theorem rText_any (s : ByteArray) (hs : s.size ≤ 1000000000) :
    Calls Tryz.prog 101 #[.pointer (some ⟨g, 0, none⟩), .string s] w fun e w' => e = .returned (.tuple #[]) ∧ WrTo 133 w g A (xs ++ enc s.size ++ s.data.toList) w' := by
  have hz : s.size < 18446744073709551616 := by omega
  have hlen := enc_len hz
  go_enter Tryz.func101, Tryz.ntmps101
  go_wp2_with (first
    | (go_at_call 90; refine (number_any s.size _ hz).mono ?_; rintro e w1 ⟨A1, c1, rfl, r1⟩)
    | (go_at_call 120; refine (add_any g A2 c2 _ _ (i2.below b3) (by rw [List.length_append]; omega) r3 (by omega)).mono ?_; rintro e w4 ⟨rfl, t4⟩; have t3 := WrTo.after m2 k2 (t4.belowThen b3))
    | (go_at_call 120; refine (add_any g A c xs _ (h.below r1.2) (by omega) (RB.of_own r1.1) (by omega)).mono ?_; rintro e w2 ⟨rfl, t2⟩; have t2 := t2.belowThen r1.2; obtain ⟨A2, c2, i2, m2, k2⟩ := t2; obtain ⟨c3, w3, hrun, r3, b3⟩ := str_bytes s w2))
  go_end0
  exact ⟨rfl, t3⟩
end
end Go.Proofs.YtlinjanflenljaaGreatDoor
