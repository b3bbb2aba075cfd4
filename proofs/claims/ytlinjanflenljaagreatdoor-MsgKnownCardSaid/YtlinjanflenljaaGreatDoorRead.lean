/- Readers: the program's reader and the reference's as blocks of memory; the number at the beginning of bytes. -/
import Derived.Test.YtlinjanflenljaaGreatDoorMem
import Derived.WalkSpells
import Derived.WalkLawsBesides
namespace Go.Proofs.YtlinjanflenljaaGreatDoor
open Go.RowKit
set_option linter.unusedSimpArgs false
set_option linter.unusedVariables false
set_option linter.unusedSectionVars false
set_option maxRecDepth 10000

theorem RB.at_ {w : World} {A : Option Addr} {n : Nat} {xs : List UInt8} (h : RB w A n xs) {k : Nat} (hk : k < n) : ∃ ad x, A = some ad ∧ xs[k]? = some x ∧ w.cell? (ad.add k) = some (.int .u8 (x.toNat : Int)) := by
  obtain ⟨hl, h2⟩ := h
  obtain ⟨ad, e, _, hc⟩ := h2 (by omega)
  have hx : xs[k]? = some (xs[k]'(by omega)) := List.getElem?_eq_getElem (by omega)
  exact ⟨ad, _, e, hx, hc k _ (by simp [bvs, hx, bv])⟩
theorem decGo_step {i acc : Nat} {xs : List UInt8} {x : UInt8} (h : xs[i]? = some x) : decGo i acc (xs.drop i) =
    if (i = 9 ∧ 1 < x.toNat) ∨ (0 < i ∧ x.toNat = 0) then none
    else if x.toNat < 128 then some (acc + x.toNat % 128 * 2 ^ (7 * i), i + 1)
    else decGo (i + 1) (acc + x.toNat % 128 * 2 ^ (7 * i)) (xs.drop (i + 1)) := by
  obtain ⟨hi, rfl⟩ := List.getElem?_eq_some_iff.1 h
  rw [List.drop_eq_getElem_cons hi, decGo]
/-- What number returns. -/
def numV (r : Option (Nat × Nat)) : Value := match r with
  | some (v, k) => .tuple #[.int .u64 v, .int .i64 k]
  | none => .tuple #[.int .u64 0, .int .i64 0]
set_option maxHeartbeats 1000000 in
theorem number_p (A : Option Addr) (n c : Nat) (xs : List UInt8) (w : World) (h : RB w A n xs) (hn : n ≤ 70368744177664) :
    Calls Tryz.prog 108 #[.slice A n c] w fun e w' => e = .returned (numV (dec xs)) ∧ w = w' := by
  have hl := Lib.hid h.1
  go_enter Tryz.func108, Tryz.ntmps108
  go_wp2
  go_loop [4, 9] (fun a i => ∃ k acc : Nat, k ≤ n ∧ k ≤ 9 ∧ i = .int .i64 k ∧ a = .int .u64 acc ∧ acc < 2 ^ (7 * k) ∧ acc < 18446744073709551616 ∧ decGo k acc (xs.drop k) = dec xs) (fun _ i => n - (intOf i).toNat)
  case atStart => exact ⟨0, 0, by omega, by omega, rfl, rfl, by simp, by omega, rfl⟩
  case round =>
    obtain ⟨k, acc, hk, hk10, rfl, rfl, hacc, hacc2, hdec⟩ := hrel
    have hdec := Lib.hid hdec
    by_cases hlt : k < n
    · obtain ⟨ad, x, rfl, hx, hc⟩ := h.at_ hlt
      have hxl : x.toNat < 256 := x.toNat_lt
      have hst := Lib.hid (decGo_step (acc := acc) hx)
      have hpw : 2 ^ (7 * k) ≤ 2 ^ 63 := Nat.pow_le_pow_right (by omega) (by omega)
      have hpow := Lib.hid hpw
      have hacc := Lib.hid hacc
      clear hpw h hx
      have hx8 := Lib.hid (show x.toNat % 128 < 128 from Nat.mod_lt _ (by omega))
      by_cases hbad : (k = 9 ∧ 1 < x.toNat) ∨ (0 < k ∧ x.toNat = 0)
      · have hfin := Lib.hid (show none = dec xs from by rw [← hdec.out, hst.out, if_pos hbad])
        by_cases q1 : k = 9 ∧ 1 < x.toNat
        · obtain ⟨q1, q2⟩ := q1
          have q3 : (1 : Int) < (x.toNat : Int) := by omega
          have b9 : ((k : Int) == 9) = true := by simp; omega
          clear hbad hk10 hdec hst q1
          go_wp2_with (fail)
          go_ret2
          exact ⟨by rw [← hfin.out]; rfl, rfl⟩
        · have q2 : 0 < k ∧ x.toNat = 0 := by omega
          obtain ⟨q2, q3⟩ := q2
          have q4 : ¬ (1 : Int) < (x.toNat : Int) := by omega
          have b0 : ((x.toNat : Int) == 0) = true := by simp; omega
          by_cases q5 : k = 9
          · have b9 : ((k : Int) == 9) = true := by simp; omega
            clear hbad q1 hk10 hdec hst q5 q3
            go_wp2_with (fail)
            go_ret2
            exact ⟨by rw [← hfin.out]; rfl, rfl⟩
          · have b9 : ((k : Int) == 9) = false := by simp; omega
            clear hbad q1 hk10 hdec hst q5 q3
            go_wp2_with (fail)
            go_ret2
            exact ⟨by rw [← hfin.out]; rfl, rfl⟩
      · have hor := or_step acc k x.toNat hxl hacc.out hacc2
        have hsm : x.toNat % 128 * 2 ^ (7 * k) < 18446744073709551616 := by
          rcases Nat.lt_or_ge k 9 with q | q
          · have h56 : 2 ^ (7 * k) ≤ 2 ^ 56 := Nat.pow_le_pow_right (by omega) (by omega)
            have := Nat.mul_le_mul (show x.toNat % 128 ≤ 127 from by omega) h56
            omega
          · have e : k = 9 := by omega
            subst e
            omega
        have hor := hor hsm
        have hsum : acc + x.toNat % 128 * 2 ^ (7 * k) < 2 ^ (7 * (k + 1)) := by
          rw [pow_step]
          have h1 := hacc.out
          have h2 : (x.toNat % 128 + 1) * 2 ^ (7 * k) ≤ 128 * 2 ^ (7 * k) := Nat.mul_le_mul_right _ (by omega)
          rw [Nat.add_mul, Nat.one_mul] at h2
          omega
        have hsum64 : acc + x.toNat % 128 * 2 ^ (7 * k) < 18446744073709551616 := by
          rcases Nat.lt_or_ge k 9 with q | q
          · have h63 : 2 ^ (7 * (k + 1)) ≤ 2 ^ 63 := Nat.pow_le_pow_right (by omega) (by omega)
            omega
          · have e : k = 9 := by omega
            subst e
            have h1 := hacc.out
            have : x.toNat ≤ 1 := by omega
            omega
        by_cases hs : x.toNat < 128
        · have hfin := Lib.hid (show some (acc + x.toNat % 128 * 2 ^ (7 * k), k + 1) = dec xs from by rw [← hdec.out, hst.out, if_neg hbad, if_pos hs])
          have hsi : (x.toNat : Int) < 128 := by omega
          generalize acc + x.toNat % 128 * 2 ^ (7 * k) = v at *
          have hor := Lib.hid hor
          by_cases q1 : k = 9
          · have q2 : ¬ (1 : Int) < (x.toNat : Int) := by omega
            have b0 : ((x.toNat : Int) == 0) = false := by simp; omega
            have b9 : ((k : Int) == 9) = true := by simp; omega
            have q6 : 0 < k := by omega
            have hk9 : 7 * (k : Int) < 64 := by omega
            clear hbad hdec hst hsm hsum q1
            go_wp2_with (fail)
            go_ret2
            exact ⟨by rw [← hfin.out]; simp only [numV]; rw [← hor.out]; rfl, rfl⟩
          · have b9 : ((k : Int) == 9) = false := by simp; omega
            have hk9 : 7 * (k : Int) < 64 := by omega
            by_cases q4 : 0 < k
            · have b0 : ((x.toNat : Int) == 0) = false := by simp; omega
              clear hbad hdec hst hsm hsum q1
              go_wp2_with (fail)
              go_ret2
              exact ⟨by rw [← hfin.out]; simp only [numV]; rw [← hor.out]; rfl, rfl⟩
            · clear hbad hdec hst hsm hsum q1
              go_wp2_with (fail)
              go_ret2
              exact ⟨by rw [← hfin.out]; simp only [numV]; rw [← hor.out]; rfl, rfl⟩
        · have hnext := Lib.hid (show decGo (k + 1) (acc + x.toNat % 128 * 2 ^ (7 * k)) (xs.drop (k + 1)) = dec xs from by rw [← hdec.out, hst.out, if_neg hbad, if_neg hs])
          have hsi : ¬ (x.toNat : Int) < 128 := by omega
          have q1 : k < 9 := by omega
          generalize acc + x.toNat % 128 * 2 ^ (7 * k) = v at *
          have hor := Lib.hid hor
          have hsum := Lib.hid hsum
          have b9 : ((k : Int) == 9) = false := by simp; omega
          have b0 : ((x.toNat : Int) == 0) = false := by simp; omega
          have hk9 : 7 * (k : Int) < 64 := by omega
          by_cases q4 : 0 < k
          all_goals
            clear hbad hdec hst hsm
            go_wp2_with (fail)
            go_round
            case rel => exact ⟨k + 1, v, by omega, by omega, by go_num, by rw [← hor.out], hsum.out, hsum64, hnext.out⟩
            case measure => simp [intOf]; omega
    · have hk2 : k = n := by omega
      go_wp2_with (fail)
      go_ret2
      refine ⟨?_, rfl⟩
      rw [← hdec.out, List.drop_eq_nil_of_le (by have := hl.out; omega)]
      rfl
end Go.Proofs.YtlinjanflenljaaGreatDoor
