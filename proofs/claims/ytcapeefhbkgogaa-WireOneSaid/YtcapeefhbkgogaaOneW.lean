/- WireOne: the walk. -/
import Derived.Test.YtcapeefhbkgogaaOneL
namespace Go.Proofs.Ytcapeefhbkgogaa
open Go.RowKit
theorem u8_lt1 (x : UInt8) : x.toNat < 256 := x.toNat_lt
set_option linter.unusedSimpArgs false
set_option linter.unusedVariables false
set_option linter.unusedSectionVars false
set_option maxRecDepth 10000
/-- A reader and a younger writer of the call's own. -/
structure RW (B D : Nat) (w W : World) (gr : Nat) (Ar : Option Addr) (cr : Nat) (s : RS) (gw : Nat) (Aw : Option Addr) (cw : Nat) (xs : List UInt8) : Prop where
  r : RdO B W gr Ar cr s
  t : WrO 46 D W gw Aw cw xs
  lt : gr < D
  le : B ≤ D
  below : Below B w W
variable {B D : Nat} {w W W' : World} {gr cr gw cw : Nat} {Ar Aw : Option Addr} {s s' : RS} {xs ys : List UInt8}
theorem RW.size (h : RW B D w W gr Ar cr s gw Aw cw xs) : D ≤ W.heap.size := by
  have := h.t.is.lt; have := h.t.low; omega
theorem RW.stepR (h : RW B D w W gr Ar cr s gw Aw cw xs) (ht : RdTo W gr s' W') : ∃ A' c', RW B D w W' gr A' c' s' gw Aw cw xs := by
  have hD := h.size
  have hlt := h.lt
  have hlow := h.t.low
  obtain ⟨A', c', o, hb⟩ := h.r.step h.below (Nat.le_trans h.le hD) ht
  obtain ⟨A'', c'', i, ch⟩ := ht
  exact ⟨A', c', o, ⟨h.t.is.keep ch (by omega) (fun k hk e => by have := h.t.row k hk; omega), h.t.low, h.t.row⟩, h.lt, h.le, hb⟩
theorem RW.stepW (h : RW B D w W gr Ar cr s gw Aw cw xs) (ht : WrTo 46 W gw Aw ys W') : ∃ A' c', RW B D w W' gr Ar cr s gw A' c' ys := by
  have hD := h.size
  have hlt := h.lt
  have hlow := h.t.low
  obtain ⟨A', c', o, hb⟩ := h.t.step (Below.refl D W) hD ht
  obtain ⟨A'', c'', i, m, ch⟩ := ht
  refine ⟨A', c', ⟨h.r.is.keep ch ?_ ?_, h.r.low⟩, o, h.lt, h.le, h.below.trans (hb.mono h.le)⟩
  · rintro (e | e)
    · omega
    · have := h.t.row _ e; omega
  · rintro k hk (e | e)
    · have := h.r.is.old k hk; omega
    · have := h.r.is.old k hk; have := h.t.row k e; omega
/-- What the loop keeps. -/
def OneR (B D : Nat) (w : World) (b : List UInt8) (gr gw k : Nat) (W : World) : Prop :=
  ∃ s Ar cr Aw cw xs, RW B D w W gr Ar cr s gw Aw cw xs ∧ (s = none ∨ ∃ r, s = some r ∧ b = xs ++ r ∧ r.length + k ≤ 2000)
set_option maxHeartbeats 4000000 in
theorem one_walk (A : Option Addr) (n c : Nat) (b : List UInt8) (A' : Option Addr) (n' c' : Nat) (ks : List UInt8) (w : World) (h : RB w A n b) (hn : n ≤ 140737488355328) (h' : RB w A' n' ks) (hc' : n' ≤ c') (hn' : n' ≤ 140737488355328) :
    Calls Try.prog 7 #[.slice A n c, .slice A' n' c'] w fun e w' => e = .returned (.bool true) ∧ Below w.heap.size w w' := by
  by_cases hb1 : 2000 < n
  · go_enter Try.func7, Try.ntmps7
    have hi1 : (2000 : Int) < (n : Int) := by omega
    go_wp2_with (fail)
    refine (works_any _).mono ?_
    rintro e w2 ⟨rfl, b2⟩
    go_wp2_with (fail)
    go_ret
    exact ⟨rfl, b2⟩
  have hi1 : ¬ (2000 : Int) < (n : Int) := by omega
  by_cases hb2 : n' = 0
  · subst hb2
    go_enter Try.func7, Try.ntmps7
    go_wp2_with (fail)
    refine (works_any _).mono ?_
    rintro e w2 ⟨rfl, b2⟩
    go_wp2_with (fail)
    go_ret
    exact ⟨rfl, b2⟩
  have hi2 : ¬ (n' : Int) = 0 := by omega
  have hi2' : ((n' : Int) == 0) = false := by simp; omega
  by_cases hb3 : 100 < n'
  · have hi3 : (100 : Int) < (n' : Int) := by omega
    go_enter Try.func7, Try.ntmps7
    go_wp2_with (fail)
    refine (works_any _).mono ?_
    rintro e w2 ⟨rfl, b2⟩
    go_wp2_with (fail)
    go_ret
    exact ⟨rfl, b2⟩
  have hi3 : ¬ (100 : Int) < (n' : Int) := by omega
  have hbl : b.length ≤ 2000 := by have := h.1; omega
  go_enter Try.func7, Try.ntmps7
  go_wp2_with (fail)
  refine (read_any h (by omega)).mono ?_
  rintro e w2 ⟨g2, A3, c3, rfl, l2, i2, hr2, b2⟩
  go_wp2_with (fail)
  refine (wNew_any _).mono ?_
  rintro e w3 ⟨rfl, rfl⟩
  have hR0 : OneR w.heap.size w2.heap.size w b g2 w2.heap.size 0 (w2.alloc (.cells #[.bool true, .slice none 0 0] 46)) := by
    refine ⟨some b, A3, c3, none, 0, [], ⟨⟨i2.below ((Below.refl _ _).alloc (Nat.le_refl _) _), l2⟩, WrO.new w2 (Nat.le_refl _), i2.lt, b2.size, b2.alloc b2.size _⟩, .inr ⟨b, rfl, rfl, by omega⟩⟩
  clear i2 b2 hr2
  go_wp2_with (fail)
  go_loopw [7] (fun i wr => ∃ k : Nat, i = .int .i64 k ∧ k ≤ 2000 ∧ OneR w.heap.size w2.heap.size w b g2 w2.heap.size k wr) (fun i _ => 2000 - (intOf i).toNat)
  case atStart => exact ⟨0, rfl, by omega, hR0⟩
  case round =>
    obtain ⟨k, rfl, hk, s, Ar, cr, Aw, cw, xs, hT, hs⟩ := hrel
    clear hR0
    rcases hs with rfl | ⟨r, rfl, hsp, hle⟩
    · have hend : endE' none = 10 := rfl
      go_wp2_with (fail)
      refine (left_p hT.r.is).mono ?_
      rintro e w4 ⟨rfl, rfl⟩
      go_wp2_with (fail)
      refine (end_p hT.r.is).mono ?_
      rintro e w4 ⟨rfl, rfl⟩
      go_wp2_with (fail)
      refine (works_any _).mono ?_
      rintro e w4 ⟨rfl, b4⟩
      go_wp2_with (fail)
      go_ret
      exact ⟨rfl, hT.below.trans (b4.mono hT.below.size)⟩
    · rcases r with _ | ⟨x, r⟩
      · have hend : endE' (some []) = 0 := rfl
        have heq := Lib.hid (show (xs == b) = true from by rw [hsp, List.append_nil]; exact beq_self_eq_true _)
        have hxl : xs.length ≤ 2000 := by rw [hsp, List.append_nil] at hbl; exact hbl
        clear hsp
        go_wp2_with (fail)
        refine (left_p hT.r.is).mono ?_
        rintro e w4 ⟨rfl, rfl⟩
        go_wp2_with (fail)
        refine (end_p hT.r.is).mono ?_
        rintro e w4 ⟨rfl, rfl⟩
        go_wp2_with (fail)
        refine (wBytes_any _ _ _ _ _ hT.t.is (by omega)).mono ?_
        rintro e w4 ⟨A4, c4, rfl, r4, b4⟩
        have b5 := hT.below.trans (b4.mono hT.below.size)
        go_wp2_with (fail)
        refine (equal_any (RB.of_own r4) (h.below b5) _ _).mono ?_
        rintro e w5 ⟨he, rfl⟩
        rw [heq.out] at he
        subst he
        go_wp2_with (fail)
        refine (works_any _).mono ?_
        rintro e w6 ⟨rfl, b6⟩
        go_wp2_with (fail)
        go_ret
        exact ⟨rfl, b5.trans (b6.mono b5.size)⟩
      · have hk1 : (k : Int) < 2000 := by simp only [List.length_cons] at hle; omega
        have hxl : xs.length ≤ 2000 := by rw [hsp, List.length_append] at hbl; omega
        obtain ⟨m, hm, hml⟩ : ∃ m : Nat, (k : Int) % (n' : Int) = (m : Int) ∧ m < n' := ⟨k % n', by omega, Nat.mod_lt _ (by omega)⟩
        obtain ⟨ad, y, rfl, hx, hc⟩ := (h'.keep (w' := wr) hT.below.size fun j hj _ => hT.below.block j hj).at_ hml
        clear hx
        have hleft : (0 : Int) < ((left (some (x :: r))).length : Int) := by simp only [left, List.length_cons]; omega
        replace hsp := Lib.hid hsp
        replace hle := Lib.hid hle
        go_wp2_with (fail)
        refine (left_p hT.r.is).mono ?_
        rintro e w4 ⟨rfl, rfl⟩
        go_wp2_with (fail)
        refine (get_any hT.r.is y.toNat (u8_lt1 y)).mono ?_
        rintro e w6 ⟨rfl, t6⟩
        obtain ⟨A6, c6, h6⟩ := hT.stepR t6
        have hback := get_back (x :: r) y.toNat (u8_lt1 y)
        clear hT t6 hc
        have hok : VV.Ok (getV (some (x :: r)) y.toNat) ∧ (getV (some (x :: r)) y.toNat).s.size ≤ 65536 := by
          rcases hback with q | ⟨_, _, _, q1, q2, _⟩
          · exact q.2
          · exact ⟨q1, q2⟩
        go_wp2_with (fail)
        refine (put_any h6.t.is (by omega) (getV (some (x :: r)) y.toNat) hok.1 (by omega)).mono ?_
        rintro e w7 ⟨rfl, t7⟩
        obtain ⟨A7, c7, h7⟩ := h6.stepW t7
        clear h6 t7
        have hR : OneR w.heap.size w2.heap.size w b g2 w2.heap.size (k + 1) w7 := by
          refine ⟨_, _, _, _, _, _, h7, ?_⟩
          rcases hback with q | ⟨r', q0, q1, _, _, q3⟩
          · exact .inl q.1
          · refine .inr ⟨r', q0, ?_, ?_⟩
            · rw [hsp.out, List.append_assoc, ← q1]
            · have := hle.out; omega
        clear h7 hback hok
        go_wp2_with (fail)
        exact ⟨⟨k + 1, by go_num, by omega, hR⟩, by simp [intOf]; omega⟩
end Go.Proofs.Ytcapeefhbkgogaa
