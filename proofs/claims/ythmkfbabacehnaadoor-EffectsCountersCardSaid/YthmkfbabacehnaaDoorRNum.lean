/- Sums: the document's. -/
import Derived.Test.YthmkfbabacehnaaDoorNum
namespace Go.Proofs.YthmkfbabacehnaaDoor
open Go.RowKit Go.Shelf
set_option linter.unusedSimpArgs false
set_option linter.unusedVariables false
set_option linter.unusedSectionVars false
set_option maxRecDepth 10000
theorem and_low (x : Int) : bits BinOp.and IntKind.i64 x 4294967295 = x % 4294967296 := by
  have h2 : (BitVec.ofInt 64 4294967295).toNat = 4294967295 := by decide
  have h1 : (BitVec.ofInt 64 x).toNat = (x % 18446744073709551616).toNat := by rw [BitVec.toNat_ofInt]; rfl
  show IntKind.i64.wrap ((BitVec.ofInt 64 x &&& BitVec.ofInt 64 4294967295).toNat : Int) = _
  rw [BitVec.toNat_and, h1, h2, show (4294967295 : Nat) = 2 ^ 32 - 1 from by decide, Nat.and_two_pow_sub_one_eq_mod]
  simp [IntKind.wrap, IntKind.signed, IntKind.bits]
  omega
set_option maxHeartbeats 4000000 in
theorem rsumN_any (A : Option Addr) (n c : Nat) (l : List Int) (w : World) (h : NS w A n l) :
    Calls Tryd.prog 22 #[.slice A n c] w fun e w' => e = .returned (.tuple #[.int .i64 (sumC l).1, .int .i64 (sumC l).2]) ∧ w' = w := by
  have hl := h.1
  by_cases hm : 10000 < n
  · rw [sumC_many (by omega)]
    have hmi : (10000 : Int) < n := by omega
    clear h hl
    go_enter Tryd.func22, Tryd.ntmps22
    go_wp2
    refine bodyPost_ret (results_tmp2 rfl _ _ _) rfl ?_
    exact ⟨rfl, rfl⟩
  have hmi : ¬ (10000 : Int) < n := by omega
  replace h := Lib.hid h; replace hl := Lib.hid hl
  go_enter Tryd.func22, Tryd.ntmps22
  go_wp2_with (fail)
  go_loopw [4, 5, 6] (fun hi lo i wr => ∃ (k : Nat) (H L : Int), k ≤ n ∧ hi = .int .i64 H ∧ lo = .int .i64 L ∧ i = .int .i64 k ∧ (l.take k).all okV = true ∧ Parts H L (l.take k).sum k ∧ wr = w) (fun _ _ i _ => n - (intOf i).toNat)
  case atStart => exact ⟨0, 0, 0, by omega, rfl, rfl, rfl, by simp, ⟨by simp, by omega, by omega, by omega, by omega⟩, rfl⟩
  case round =>
    obtain ⟨k, H, L, hk, rfl, rfl, rfl, hall, hP, rfl⟩ := hrel
    by_cases hlt : k < n
    · obtain ⟨b, o, x, rfl, hbl, hx, hc⟩ := h.out.at_ hlt
      have j0 : (0 : Int) ≤ k := by omega
      have j1 : (k : Int) < n := by omega
      have hs := sum_take hx
      have ha := okV_take hx
      rw [hall, Bool.true_and] at ha
      have hC := rcheckN_any x wr
      by_cases hv : okV x = true
      · rw [okVC_ok hv] at hC
        rw [hv] at ha
        have hv' := (okV_iff x).1 hv
        obtain ⟨p1, p2, p3, p4, p5⟩ := hP
        have hk1 : (k : Int) < 10000 := by omega
        replace ha := Lib.hid ha; replace hs := Lib.hid hs; replace hall := Lib.hid hall; replace hx := Lib.hid hx; replace hv := Lib.hid hv; replace p1 := Lib.hid p1
        go_wp2_with (fail)
        refine hC.mono ?_
        rintro e w2 ⟨rfl, rfl⟩
        have hand := and_low x
        have hx3 : (0 : Int) ≤ x % 4294967296 ∧ x % 4294967296 < 4294967296 := by omega
        have hx4 : -268435456 ≤ x / 4294967296 ∧ x / 4294967296 ≤ 268435456 := by omega
        have hx5 : x = 4294967296 * (x / 4294967296) + x % 4294967296 := by omega
        replace hx5 := Lib.hid hx5
        go_wp2_with (fail)
        exact ⟨⟨k + 1, _, _, by omega, rfl, rfl, by go_num, ha.out, ⟨by have := hs.out; have := p1.out; have := hx5.out; omega, by omega, by omega, by omega, by omega⟩, trivial⟩, by simp [intOf]; omega⟩
      · rw [okVC_bad hv] at hC
        have hfin := Lib.hid (sumC_bad (by have := hl.out; omega) hx hv)
        replace ha := Lib.hid ha; replace hs := Lib.hid hs; replace hall := Lib.hid hall; replace hx := Lib.hid hx; replace hv := Lib.hid hv; replace hP := Lib.hid hP
        go_wp2_with (fail)
        refine hC.mono ?_
        rintro e w2 ⟨rfl, rfl⟩
        go_wp2_with (fail)
        refine bodyPost_ret (results_tmp2 rfl _ _ _) rfl ?_
        exact ⟨by rw [hfin.out]; rfl, rfl⟩
    · obtain rfl : k = n := by omega
      have hl' := hl.out
      rw [List.take_of_length_le (by omega)] at hall hP
      have hfine := sumC_fine (by omega) hall
      obtain ⟨p1, p2, p3, p4, p5⟩ := hP
      have hand := and_low L
      obtain ⟨H', hH⟩ : ∃ H', H' = H + L / 4294967296 := ⟨_, rfl⟩
      obtain ⟨L', hL⟩ : ∃ L', L' = L % 4294967296 := ⟨_, rfl⟩
      have hS : l.sum = 4294967296 * H' + L' := by omega
      have hL2 : 0 ≤ L' ∧ L' < 4294967296 := by omega
      have hH2 : -2684354560000 ≤ H' ∧ H' ≤ 2684354570000 := by omega
      rw [← hL] at hand
      have hH3 : H + L / 4294967296 = H' := hH.symm
      have hL5 : 0 ≤ L / 4294967296 ∧ L / 4294967296 ≤ 10000 := by omega
      replace hH := Lib.hid hH; replace hL := Lib.hid hL; replace hall := Lib.hid hall; replace hl := Lib.hid hl'; replace p1 := Lib.hid p1
      clear hl'
      by_cases hv : okV l.sum = true
      · have hv' := (okV_iff _).1 hv
        rw [if_pos hv, hS] at hfine
        rw [hS] at hv'
        have g1 : ¬ H' < -268435456 := by omega
        have g2 : ¬ 268435456 < H' := by omega
        have g3 : H' = 268435456 → ¬ 0 < L' := by omega
        replace hS := Lib.hid hS; replace hfine := Lib.hid hfine
        clear hv
        by_cases g4 : H' = 268435456
        · have g5 : ¬ 0 < L' := g3 g4
          have g6 : (H' == 268435456) = true := by simp [g4]
          have g7 : H' * 4294967296 = 4294967296 * H' := by omega
          replace g4 := Lib.hid g4
          clear g3
          go_wp2_with (fail)
          refine bodyPost_ret (results_tmp2 rfl _ _ _) rfl ?_
          exact ⟨by rw [hfine.out]; rfl, rfl⟩
        · have g6 : (H' == 268435456) = false := beq_false_of_ne g4
          have g7 : H' * 4294967296 = 4294967296 * H' := by omega
          clear g3
          go_wp2_with (fail)
          refine bodyPost_ret (results_tmp2 rfl _ _ _) rfl ?_
          exact ⟨by rw [hfine.out]; rfl, rfl⟩
      · rw [if_neg hv] at hfine
        have hv' : ¬ (-1152921504606846976 ≤ 4294967296 * H' + L' ∧ 4294967296 * H' + L' ≤ 1152921504606846976) := fun q => hv ((okV_iff _).2 (by rw [hS]; exact q))
        replace hS := Lib.hid hS; replace hfine := Lib.hid hfine
        clear hv
        have hcase : H' < -268435456 ∨ 268435456 < H' ∨ (H' = 268435456 ∧ 0 < L') := by omega
        clear hv'
        rcases hcase with g | g | ⟨g, g2⟩
        · go_wp2_with (fail)
          refine bodyPost_ret (results_tmp2 rfl _ _ _) rfl ?_
          exact ⟨by rw [hfine.out]; rfl, rfl⟩
        · have g1 : ¬ H' < -268435456 := by omega
          go_wp2_with (fail)
          refine bodyPost_ret (results_tmp2 rfl _ _ _) rfl ?_
          exact ⟨by rw [hfine.out]; rfl, rfl⟩
        · have g1 : ¬ H' < -268435456 := by omega
          have g3 : ¬ 268435456 < H' := by omega
          have g6 : (H' == 268435456) = true := by simp [g]
          replace g := Lib.hid g
          go_wp2_with (fail)
          refine bodyPost_ret (results_tmp2 rfl _ _ _) rfl ?_
          exact ⟨by rw [hfine.out]; rfl, rfl⟩
end Go.Proofs.YthmkfbabacehnaaDoor
