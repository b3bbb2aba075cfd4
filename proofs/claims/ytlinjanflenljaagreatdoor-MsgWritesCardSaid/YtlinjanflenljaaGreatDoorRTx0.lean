/- The reference's checksums. -/
import Derived.Test.YtlinjanflenljaaGreatDoorCrc
import Derived.Test.YtlinjanflenljaaGreatDoorSome
import Derived.Test.YtlinjanflenljaaGreatDoorText
import Derived.Test.YtlinjanflenljaaGreatDoorRefX
namespace Go.Proofs.YtlinjanflenljaaGreatDoor
open Go.RowKit
set_option linter.unusedSimpArgs false
set_option linter.unusedVariables false
set_option linter.unusedSectionVars false
set_option maxRecDepth 10000
attribute [-go_sem] run_string_add_if
theorem half_1 {r : Nat} (hr : r < 4294967296) : bits .xor .u32 ((r : Int) / 2) 3988292384 = (((r / 2) ^^^ 3988292384 : Nat) : Int) := by
  rw [show (r : Int) / 2 = ((r / 2 : Nat) : Int) from by omega, show (3988292384 : Int) = ((3988292384 : Nat) : Int) from rfl, u32_xor_nat _ _ (by omega) (by omega)]
theorem rstep_any (r : Nat) (hr : r < 4294967296) (w : World) : Calls Tryz.prog 146 #[.int .u32 r] w fun e w' => e = .returned (.int .u32 (stp r)) ∧ w = w' := by
  have e1 := half_1 hr
  by_cases h : r % 2 = 1
  · have hf := Lib.hid (show stp r = (r / 2) ^^^ 3988292384 from by unfold stp; rw [if_pos h])
    have h2 : (r : Int) % 2 = 1 := by omega
    generalize (r / 2) ^^^ 3988292384 = y at *
    go_enter Tryz.func146, Tryz.ntmps146
    go_wp2_with (fail)
    go_ret
    exact ⟨by rw [hf.out]; rfl, rfl⟩
  · have hf := Lib.hid (show stp r = r / 2 from by unfold stp; rw [if_neg h])
    have h2 : (r : Int) % 2 = 0 := by omega
    have h3 : (r : Int) / 2 = ((r / 2 : Nat) : Int) := by omega
    clear e1
    generalize r / 2 = y at *
    go_enter Tryz.func146, Tryz.ntmps146
    go_wp2_with (fail)
    go_ret
    exact ⟨by rw [hf.out]; rfl, rfl⟩
theorem stps_snoc : ∀ (k r : Nat), stps (k + 1) r = stp (stps k r)
  | 0, r => rfl
  | k + 1, r => by show stps (k + 1) (stp r) = _; rw [stps_snoc k]; rfl
theorem stps_lt : ∀ (k r : Nat), r < 4294967296 → stps k r < 4294967296
  | 0, r, h => h
  | k + 1, r, h => stps_lt k _ (stp_lt h)
set_option maxHeartbeats 2000000 in
theorem rtake_any (r : Nat) (hr : r < 4294967296) (x : UInt8) (w : World) : Calls Tryz.prog 135 #[.int .u32 r, .int .u8 (x.toNat : Int)] w fun e w' => e = .returned (.int .u32 (takeN r x)) ∧ w = w' := by
  have e1 := xor_byte hr x
  have e2 := xor_byte_lt x hr
  have hf : takeN r x = stps 8 (r ^^^ x.toNat) := (stps8 _).symm
  have hxl : x.toNat < 256 := x.toNat_lt
  have x1 : (x.toNat : Int) % 4294967296 = (x.toNat : Int) := by omega
  generalize r ^^^ x.toNat = y at *
  replace hf := Lib.hid hf
  go_enter Tryz.func135, Tryz.ntmps135
  go_wp2_with (fail)
  go_loop [0, 5] (fun a i => ∃ k : Nat, k ≤ 8 ∧ i = .int .i64 k ∧ a = .int .u32 (stps k y)) (fun _ i => 8 - (intOf i).toNat)
  case atStart => exact ⟨0, by omega, rfl, rfl⟩
  case round =>
    obtain ⟨k, hk, rfl, rfl⟩ := hrel
    by_cases hlt : k < 8
    · have k0 : (0 : Int) ≤ k := by omega
      have k1 : (k : Int) < 8 := by omega
      have hs := stps_lt k y e2
      have hn := Lib.hid (stps_snoc k y)
      generalize stps k y = z at *
      go_wp2_with (fail)
      refine (rstep_any z hs _).mono ?_
      rintro e w1 ⟨rfl, rfl⟩
      go_wp2_with (fail)
      exact ⟨⟨k + 1, by omega, by go_num, by rw [hn.out]⟩, by simp [intOf]; omega⟩
    · obtain rfl : k = 8 := by omega
      go_wp2_with (fail)
      go_ret
      exact ⟨by rw [hf.out]; rfl, rfl⟩
set_option maxHeartbeats 2000000 in
theorem rmore_any (s : Nat) (hs : s < 4294967296) (A : Option Addr) (n c : Nat) (xs : List UInt8) (w : World) (h : RB w A n xs) (hn : n ≤ 70368744177664) :
    Calls Tryz.prog 124 #[.int .u32 s, .slice A n c] w fun e w' => e = .returned (.int .u32 (crcMore s xs)) ∧ w = w' := by
  have e0 := xor_max hs
  have m1 : IntKind.u32.max = 4294967295 := by rfl
  have m2 : IntKind.u32.signed = false := by rfl
  obtain ⟨z, hz⟩ : ∃ z, z = 4294967295 - s := ⟨_, rfl⟩
  rw [← hz] at e0
  have hz4 : z < 4294967296 := by omega
  have hfin : crcMore s xs = 4294967295 - crcGo z xs := by rw [hz]; rfl
  have hl := Lib.hid h.1
  replace hz := Lib.hid hz; replace hfin := Lib.hid hfin
  go_enter Tryz.func124, Tryz.ntmps124
  go_wp2_with (fail)
  go_loop [5, 6] (fun r i => ∃ k : Nat, k ≤ n ∧ i = .int .i64 k ∧ r = .int .u32 (crcGo z (xs.take k))) (fun _ i => n - (intOf i).toNat)
  case atStart => exact ⟨0, by omega, rfl, rfl⟩
  case round =>
    obtain ⟨k, hk, rfl, rfl⟩ := hrel
    have hr := crcGo_lt (xs.take k) z hz4
    by_cases hlt : k < n
    · obtain ⟨ad, x, rfl, hx, hc⟩ := h.at_ hlt
      have hsn := Lib.hid (show crcGo z (xs.take (k + 1)) = takeN (crcGo z (xs.take k)) x from by rw [List.take_add_one, hx]; exact crcGo_snoc _ _ _)
      generalize crcGo z (xs.take k) = r at *
      have k0 : (0 : Int) ≤ k := by omega
      have k1 : (k : Int) < (n : Int) := by omega
      clear h hx
      go_wp2_with (fail)
      refine (rtake_any r hr x w).mono ?_
      rintro e w1 ⟨rfl, rfl⟩
      go_wp2_with (fail)
      exact ⟨⟨k + 1, by omega, by go_num, by rw [hsn.out]⟩, by simp [intOf]; omega⟩
    · obtain rfl : k = n := by omega
      have hft := Lib.hid (show xs.take k = xs from by rw [← hl.out, List.take_length])
      have e1 := xor_max hr
      have hf2 := Lib.hid (show crcMore s xs = 4294967295 - crcGo z (xs.take k) from by rw [hft.out, hfin.out])
      clear hfin hft
      generalize crcGo z (xs.take k) = r at *
      generalize 4294967295 - r = y at *
      go_wp2_with (fail)
      go_ret
      exact ⟨by rw [hf2.out]; rfl, rfl⟩
set_option maxHeartbeats 2000000 in
theorem rsum_any (A : Option Addr) (n c : Nat) (xs : List UInt8) (w : World) (h : RB w A n xs) (hn : n ≤ 70368744177664) :
    Calls Tryz.prog 105 #[.slice A n c] w fun e w' => e = .returned (.int .u32 (crcN xs)) ∧ w = w' := by
  have h0 := rmore_any 0 (by omega) A n c xs w h hn
  rw [crcMore_zero] at h0
  go_enter Tryz.func105, Tryz.ntmps105
  go_wp2_with (fail)
  refine h0.mono ?_
  rintro e w1 ⟨rfl, rfl⟩
  go_wp2_with (fail)
  go_ret
  exact ⟨rfl, rfl⟩
theorem hexL_cons : ∀ (k u : Nat), hexL (k + 1) u = hexC (u / 16 ^ k % 16) :: hexL k u
  | 0, u => by simp [hexL]
  | k + 1, u => by
    rw [hexL, hexL_cons k (u / 16)]
    rw [Nat.div_div_eq_div_mul, show 16 * 16 ^ k = 16 ^ (k + 1) from by rw [Nat.pow_succ, Nat.mul_comm]]
    rfl
theorem hex_cut (d : Nat) (hd : d < 16) : (⟨#[48, 49, 50, 51, 52, 53, 54, 55, 56, 57, 97, 98, 99, 100, 101, 102]⟩ : ByteArray).extract d (d + 1) = sOf [hexC d] := by
  have : d = 0 ∨ d = 1 ∨ d = 2 ∨ d = 3 ∨ d = 4 ∨ d = 5 ∨ d = 6 ∨ d = 7 ∨ d = 8 ∨ d = 9 ∨ d = 10 ∨ d = 11 ∨ d = 12 ∨ d = 13 ∨ d = 14 ∨ d = 15 := by omega
  rcases this with e | e | e | e | e | e | e | e | e | e | e | e | e | e | e | e <;> rw [e] <;> decide +kernel
set_option maxHeartbeats 2000000 in
theorem rhex_any (u : Nat) (hu : u < 4294967296) (w : World) : Calls Tryz.prog 104 #[.int .u32 u] w fun e w' => e = .returned (.string (sOf (hex8 u))) ∧ w = w' := by
  go_enter Tryz.func104, Tryz.ntmps104
  go_wp2_with (fail)
  go_loop [0, 3, 4] (fun a b i => ∃ k : Nat, k ≤ 8 ∧ i = .int .i64 k ∧ a = .int .u32 ((u / 16 ^ k : Nat) : Int) ∧ b = .string (sOf (hexL k u))) (fun _ _ i => 8 - (intOf i).toNat)
  case atStart => exact ⟨0, by omega, by simp; rfl⟩
  case round =>
    obtain ⟨k, hk, rfl, rfl, rfl⟩ := hrel
    by_cases hlt : k < 8
    · have k0 : (0 : Int) ≤ k := by omega
      have k1 : (k : Int) < 8 := by omega
      have hv : u / 16 ^ k < 4294967296 := Nat.lt_of_le_of_lt (Nat.div_le_self _ _) hu
      have hd : u / 16 ^ k / 16 = u / 16 ^ (k + 1) := by rw [Nat.div_div_eq_div_mul, Nat.pow_succ]
      have hx := hexL_cons k u
      have hll := hexL_len k u
      obtain ⟨R, hR⟩ : ∃ R, R = sOf (hexL (k + 1) u) := ⟨_, rfl⟩
      obtain ⟨T, hT⟩ : ∃ T, T = sOf (hexL k u) := ⟨_, rfl⟩
      obtain ⟨C, hC⟩ : ∃ C, C = sOf [hexC (u / 16 ^ k % 16)] := ⟨_, rfl⟩
      have hcut := hex_cut (u / 16 ^ k % 16) (by omega)
      rw [← hC] at hcut
      have ha := add_run hC hT (hR.trans (by rw [hx]; rfl)) (by simp; omega)
      rw [← hT]
      generalize u / 16 ^ k = v at *
      obtain ⟨dg, hdg⟩ : ∃ x, x = v % 16 := ⟨_, rfl⟩
      obtain ⟨v2, hv2⟩ : ∃ x, x = v / 16 := ⟨_, rfl⟩
      have e0 : (v : Int) % 16 = (dg : Int) := by omega
      have e1 : (v : Int) / 16 = (v2 : Int) := by omega
      have d1 : dg < 16 := by omega
      have d10 : (v2 : Int) % 4294967296 = (v2 : Int) := by omega
      have d2 : (dg : Int) + 1 ≤ 16 := by omega
      have d7 : (dg : Int) ≤ (dg : Int) + 1 := by omega
      have d8 : (0 : Int) ≤ (dg : Int) := by omega
      have d4 : ((dg : Int) + 1).toNat = dg + 1 := by omega
      have d6 : IntKind.u32.wrap ((dg : Int) + 1) = (dg : Int) + 1 := by simp [IntKind.wrap, IntKind.signed, IntKind.bits]; omega
      have d9 : ((dg : Int) + 1) % 4294967296 = (dg : Int) + 1 := by omega
      rw [← hdg] at hcut
      have hfin := Lib.hid (show Value.string R = Value.string (sOf (hexL (k + 1) u)) from by rw [hR])
      have hfin2 := Lib.hid (show (Value.int .u32 (v2 : Int)) = .int .u32 ((u / 16 ^ (k + 1) : Nat) : Int) from by rw [hv2, hd])
      replace hR := Lib.hid hR; replace hT := Lib.hid hT; replace hC := Lib.hid hC; replace hx := Lib.hid hx; replace hd := Lib.hid hd; replace hdg := Lib.hid hdg; replace hv2 := Lib.hid hv2; replace hv := Lib.hid hv
      go_wp2_with (fail)
      exact ⟨⟨k + 1, by omega, by go_num, by first | rw [hfin2.out] | rw [d10, hfin2.out], by rw [hfin.out]⟩, by simp [intOf]; omega⟩
    · obtain rfl : k = 8 := by omega
      go_wp2_with (fail)
      go_ret
      exact ⟨rfl, rfl⟩
end Go.Proofs.YtlinjanflenljaaGreatDoor

namespace Go.Proofs.YtlinjanflenljaaGreatDoor
open Go.RowKit
set_option linter.unusedSimpArgs false
set_option linter.unusedVariables false
set_option linter.unusedSectionVars false
set_option maxRecDepth 10000
attribute [-go_sem] run_string_add_if
set_option maxHeartbeats 2000000 in
theorem digits_any : ∀ (k : Nat) (x : Int) (w : World), x.toNat = k → 0 ≤ x → x ≤ 9223372036854775807 → Calls Tryz.prog 123 #[.int .i64 x] w fun e w' => e = .returned (.string ⟨(Lib.decDigits x.toNat).toArray⟩) ∧ w = w' := by
  intro k
  induction k using Nat.strongRecOn with
  | _ k ih =>
    intro x w hk h0 h1
    by_cases hlt : x < 10
    · rw [Lib.decDigits_one (by omega)]
      have hp : (⟨#[48, 49, 50, 51, 52, 53, 54, 55, 56, 57]⟩ : ByteArray).extract x.toNat (x.toNat + 1) = ⟨[UInt8.ofNat (48 + x.toNat)].toArray⟩ := by
        have : x.toNat = 0 ∨ x.toNat = 1 ∨ x.toNat = 2 ∨ x.toNat = 3 ∨ x.toNat = 4 ∨ x.toNat = 5 ∨ x.toNat = 6 ∨ x.toNat = 7 ∨ x.toNat = 8 ∨ x.toNat = 9 := by omega
        rcases this with e | e | e | e | e | e | e | e | e | e <;> rw [e] <;> decide +kernel
      obtain ⟨d, rfl⟩ : ∃ d : Nat, x = d := ⟨x.toNat, by omega⟩
      simp only [Int.toNat_natCast] at hp ⊢
      have hfin := Lib.hid hp
      have c1 : (0 : Int) ≤ ↑d := by omega
      have c2 : (↑d : Int) ≤ ↑d + 1 := by omega
      have c3 : (↑d + 1 : Int) ≤ 10 := by omega
      clear ih hp hk
      go_enter Tryz.func123, Tryz.ntmps123
      go_wp2
      go_ret
      exact ⟨by rw [← hfin.out]; rfl, rfl⟩
    · have hd : Lib.decDigits x.toNat = Lib.decDigits (x / 10).toNat ++ Lib.decDigits (x % 10).toNat := by
        rw [Lib.decDigits, dif_neg (by omega), show (x / 10).toNat = x.toNat / 10 from by omega, Lib.decDigits_one (i := (x % 10).toNat) (by omega), show (x % 10).toNat = x.toNat % 10 from by omega]
      have i1 := Lib.hid (fun w => ih ((x / 10).toNat) (by omega) (x / 10) w rfl (by omega) (by omega))
      have i2 := Lib.hid (fun w => ih ((x % 10).toNat) (by omega) (x % 10) w rfl (by omega) (by omega))
      rw [hd]
      obtain ⟨S, hS⟩ : ∃ S : ByteArray, S = ⟨(Lib.decDigits (x / 10).toNat).toArray⟩ := ⟨_, rfl⟩
      obtain ⟨R, hR⟩ : ∃ S : ByteArray, S = ⟨(Lib.decDigits (x % 10).toNat).toArray⟩ := ⟨_, rfl⟩
      have hSR : (⟨(Lib.decDigits (x / 10).toNat ++ Lib.decDigits (x % 10).toNat).toArray⟩ : ByteArray) = S ++ R := by
        rw [hS, hR]; apply ByteArray.ext; simp
      have hn : ∀ u : Nat, u ≤ 9223372036854775807 → (Lib.decDigits u).length ≤ 100 := fun u hu => by
        rw [Lib.decDigits_length]
        have hb : ∀ (k u : Nat), u < 10 ^ (k + 1) → Lib.nDigits u ≤ k + 1 := by
          intro k
          induction k with
          | zero => intro u hu; rw [Lib.nDigits_small (by simpa using hu)]; omega
          | succ k ih =>
            intro u hu
            by_cases h : u < 10
            · rw [Lib.nDigits_small h]; omega
            · rw [Lib.nDigits_big h]
              have := ih (u / 10) (by rw [Nat.pow_succ] at hu; omega)
              omega
        exact Nat.le_trans (hb 18 u (by omega)) (by omega)
      have hs1 : S.size ≤ 100 := by rw [hS]; exact hn _ (by omega)
      have hs2 : R.size ≤ 100 := by rw [hR]; exact hn _ (by omega)
      have ha : ∀ W : World, (Op.stringOp .add S R).run Tryz.prog W = .ok (.string (S ++ R)) W := fun W => run_string_add_sum W _ _ (by omega)
      have HS := Lib.hid hS; have HR := Lib.hid hR; have hfin := Lib.hid hSR
      clear hS hR hSR hn hd ih hk
      go_enter Tryz.func123, Tryz.ntmps123
      go_wp2_with (fail)
      refine (i1.out _).mono ?_
      rintro e w' ⟨he, rfl⟩
      rw [← HS.out] at he
      subst he
      go_wp2_with (fail)
      refine (i2.out _).mono ?_
      rintro e w' ⟨he, rfl⟩
      rw [← HR.out] at he
      subst he
      go_wp2_with (fail)
      go_ret
      exact ⟨by rw [hfin.out]; rfl, rfl⟩
theorem digits_at (x : Int) (h0 : 0 ≤ x) (h1 : x ≤ 9223372036854775807) (S : ByteArray) (hS : Hid (S = ⟨(Lib.decDigits x.toNat).toArray⟩)) (w : World) : Calls Tryz.prog 123 #[.int .i64 x] w fun e w' => e = .returned (.string S) ∧ w' = w := by
  have hS : S = _ := hS
  subst hS
  exact (digits_any _ x w rfl h0 h1).mono fun _ _ ⟨he, hb⟩ => ⟨he, hb.symm⟩
set_option maxHeartbeats 2000000 in
theorem rtext_any (r n : Int) (w : World) (hL : Ldr w) : Calls Tryz.prog 103 #[.agg #[.int .i64 r, .int .i64 n]] w fun e w' => e = .returned (.tuple #[.string (txtS r n), .int .i64 (chkE r n 7)]) ∧ Below w.heap.size w w' := by
  rcases Bool.eq_false_or_eq_true (vld r n 7) with hv | hv
  · have hv' := (vld_iff r n 7).1 hv
    rw [txtS_ok hv, chkE_ok hv, ← txt_str]
    have hck := Lib.hid (chkE_ok hv)
    have hr0 : 0 ≤ r := by omega
    have hn0 : 0 ≤ n := by omega
    have hr1 : r ≤ 9223372036854775807 := by omega
    have hn1 : n ≤ 9223372036854775807 := by omega
    have hs := TextS.new (r := r) (n := n) hL
    obtain ⟨S, hS⟩ : ∃ S : ByteArray, S = ⟨(Lib.decDigits r.toNat).toArray⟩ := ⟨_, rfl⟩
    obtain ⟨R, hR⟩ : ∃ S : ByteArray, S = ⟨(Lib.decDigits n.toNat).toArray⟩ := ⟨_, rfl⟩
    have hs10 : S.size ≤ 10 := by rw [hS]; exact dec_len (by omega)
    have hr10 : R.size ≤ 10 := by rw [hR]; exact dec_len (by omega)
    rw [← hS, ← hR]
    replace hS := Lib.hid hS
    have hRR := Lib.hid hR
    have ha1 : ∀ W : World, (Op.stringOp .add S ⟨#[46]⟩).run Tryz.prog W = .ok (.string (S ++ ⟨#[46]⟩)) W := fun W => run_string_add_sum W _ _ (by show S.size + 1 ≤ _; omega)
    have ha2 : ∀ W : World, (Op.stringOp .add (S ++ ⟨#[46]⟩) R).run Tryz.prog W = .ok (.string (S ++ ⟨#[46]⟩ ++ R)) W := fun W => run_string_add_sum W _ _ (by rw [ByteArray.size_append]; show S.size + 1 + _ ≤ _; omega)
    clear hv hv' hR
    go_enter Tryz.func103, Tryz.ntmps103
    go_wp2_with (fail)
    refine (rcheck_any r n 7 _).mono ?_
    rintro e w1 ⟨he, b1⟩
    rw [hck.out] at he
    subst he
    have hR := Lib.hid (hs.keep b1)
    clear hs
    have q0 := blkC hR.out.blk 0; have q1 := blkC hR.out.blk 1
    go_wp2_with (fail)
    go_quiet (first | (go_at_call 123; with_reducible exact Calls.quiet_of_same (digits_at r hr0 hr1 S hS _)) | (go_at_call 123; with_reducible exact Calls.quiet_of_same (digits_at n hn0 hn1 R hRR _)))
    all_goals
      have hfin := hR.out.bel
      go_wp2_with (fail)
      go_ret2
      exact ⟨by simp, by first | exact hfin | exact below_drewN hfin _⟩
  · rw [txtS_bad hv, chkE_bad hv]
    have hck := Lib.hid (chkE_bad hv)
    have hs := TextS.new (r := r) (n := n) hL
    clear hv
    go_enter Tryz.func103, Tryz.ntmps103
    go_wp2_with (fail)
    refine (rcheck_any r n 7 _).mono ?_
    rintro e w1 ⟨he, b1⟩
    rw [hck.out] at he
    subst he
    have hR := Lib.hid (hs.keep b1).bel
    clear hs
    go_wp2_with (fail)
    go_ret2
    exact ⟨rfl, hR.out⟩
end Go.Proofs.YtlinjanflenljaaGreatDoor

namespace Go.Proofs.YtlinjanflenljaaGreatDoor
open Go.RowKit
set_option linter.unusedSimpArgs false
set_option linter.unusedVariables false
set_option linter.unusedSectionVars false
set_option maxRecDepth 10000
attribute [-go_sem] run_string_add_if
theorem one_conv {V : World} {R : Nat} {x : Int} {T : TypeId} {f : Nat × Nat} (h : V.heap[R]? = some (.cells #[.int .u8 x] T f)) : (convert 22 9 (.slice (some ⟨R, 0, none⟩) 1 1)).run Tryz.prog V = .ok (.string ⟨#[UInt8.ofNat x.toNat]⟩) V := by
  refine run_convert_bytes_arg V 22 5 Tryz.underlying22 Tryz.underlying5 R 0 1 1 [x] rfl (fun i hi => ?_) 9 Tryz.underlying9
  obtain rfl : i = 0 := by omega
  exact blkC h 0
set_option maxHeartbeats 4000000 in
theorem rdig_any : ∀ (k : Nat) (x : Int) (w : World), x.toNat = k → 0 ≤ x → x ≤ 9223372036854775807 → Calls Tryz.prog 48 #[.int .i64 x] w fun e w' => e = .returned (.string (sOf (Lib.decDigits x.toNat))) ∧ Below w.heap.size w w' := by
  intro k
  induction k using Nat.strongRecOn with
  | _ k ih =>
    intro x w hk h0 h1
    by_cases hlt : x < 10
    · rw [Lib.decDigits_one (by omega)]
      have hw : IntKind.u8.wrap (48 + x) = 48 + x := by simp [IntKind.wrap, IntKind.signed, IntKind.bits]; omega
      have hw2 : (48 + x) % 256 = 48 + x := by omega
      have hcv := one_conv (x := 48 + x) (hpNew w (.cells #[.int .u8 (48 + x)] 5))
      have hfin := Lib.hid (show (⟨#[UInt8.ofNat (48 + x).toNat]⟩ : ByteArray) = sOf [UInt8.ofNat (48 + x.toNat)] from by rw [show (48 + x).toNat = 48 + x.toNat from by omega]; rfl)
      have kb := Lib.hid ((Below.refl _ w).alloc (Nat.le_refl _) (.cells #[.int .u8 (48 + x)] 5))
      clear ih hk
      go_enter Tryz.func48, Tryz.ntmps48
      go_wp2_with (fail)
      go_ret
      exact ⟨by rw [← hfin.out]; rfl, kb.out⟩
    · have hd : Lib.decDigits x.toNat = Lib.decDigits (x / 10).toNat ++ Lib.decDigits (x % 10).toNat := by
        rw [Lib.decDigits, dif_neg (by omega), show (x / 10).toNat = x.toNat / 10 from by omega, Lib.decDigits_one (i := (x % 10).toNat) (by omega), show (x % 10).toNat = x.toNat % 10 from by omega]
      have i1 := Lib.hid (fun w => ih ((x / 10).toNat) (by omega) (x / 10) w rfl (by omega) (by omega))
      have i2 := Lib.hid (fun w => ih ((x % 10).toNat) (by omega) (x % 10) w rfl (by omega) (by omega))
      have l1 := dec_len20 (x / 10).toNat (by omega)
      have l2 := dec_len20 (x % 10).toNat (by omega)
      rw [hd]
      obtain ⟨S, hS⟩ : ∃ S : ByteArray, S = sOf (Lib.decDigits (x / 10).toNat) := ⟨_, rfl⟩
      obtain ⟨R, hR⟩ : ∃ S : ByteArray, S = sOf (Lib.decDigits (x % 10).toNat) := ⟨_, rfl⟩
      obtain ⟨T, hT⟩ : ∃ S : ByteArray, S = sOf (Lib.decDigits (x / 10).toNat ++ Lib.decDigits (x % 10).toNat) := ⟨_, rfl⟩
      have ha := add_run hS hR hT (by omega)
      rw [← hT]
      have HS := Lib.hid hS; have HR := Lib.hid hR
      replace hT := Lib.hid hT
      clear hS hR hd ih hk l1 l2
      go_enter Tryz.func48, Tryz.ntmps48
      go_wp2_with (fail)
      refine (i1.out _).mono ?_
      rintro e w1 ⟨he, b1⟩
      rw [← HS.out] at he
      subst he
      replace b1 := Lib.hid b1
      go_wp2_with (fail)
      refine (i2.out _).mono ?_
      rintro e w2 ⟨he, b2⟩
      rw [← HR.out] at he
      subst he
      have hb := Lib.hid (b1.out.trans (b2.mono b1.out.size))
      clear b2
      go_wp2_with (fail)
      go_ret
      exact ⟨rfl, hb.out⟩
set_option maxHeartbeats 4000000 in
theorem rsome_any (v : List UInt8) (hv : v.length ≤ 70368744177664) (w : World) : Calls Tryz.prog 50 #[.string (sOf v)] w fun e w' => e = .returned (.string (sOf (someV v))) ∧ Below w.heap.size w w' := by
  have hi := rdig_any v.length (v.length : Int) w (by omega) (by omega) (by omega)
  rw [Int.toNat_natCast] at hi
  have hsz := sOf_size v
  obtain ⟨S, hS⟩ : ∃ S, S = sOf (Lib.decDigits v.length) := ⟨_, rfl⟩
  rw [← hS] at hi
  obtain ⟨T, hT⟩ : ∃ T, T = sOf (Lib.decDigits v.length ++ [35]) := ⟨_, rfl⟩
  obtain ⟨H, hH⟩ : ∃ H, H = sOf (hex8 (crcN v)) := ⟨_, rfl⟩
  obtain ⟨R, hR⟩ : ∃ R, R = sOf (someV v) := ⟨_, rfl⟩
  have hdl := dec_len20 v.length (by omega)
  have h8 := hex8_len (crcN v)
  have a1 := add_run (T := ⟨#[35]⟩) hS rfl hT (by simp; omega)
  have a2 := add_run hT hH (hR.trans (by simp [someV])) (by simp; omega)
  have hx := fun W => rhex_any (crcN v) (crcN_lt v) W
  rw [← hH] at hx
  have hsv := fun W => str_bytes (sOf v) W
  rw [sOf_list] at hsv
  rw [← hR]
  have hl1 : ((sOf v).size : Int) = (v.length : Int) := by rw [hsz]
  have hsz' := Lib.hid hsz
  replace hS := Lib.hid hS; replace hT := Lib.hid hT; replace hH := Lib.hid hH; replace hR := Lib.hid hR; replace h8 := Lib.hid h8; replace hdl := Lib.hid hdl; replace hsz := Lib.hid hsz; replace hsv := Lib.hid hsv
  generalize sOf v = V at *
  go_enter Tryz.func50, Tryz.ntmps50
  go_wp2_with (fail)
  refine hi.mono ?_
  rintro e w1 ⟨rfl, b1⟩
  obtain ⟨c1, W1, hrun, hrb, hb⟩ := hsv.out w1
  have hsum := rsum_any _ V.size c1 v W1 hrb (by have := hsz'.out; omega)
  have hbb := Lib.hid (b1.trans (hb.mono b1.size))
  replace hrb := Lib.hid hrb
  clear b1 hb
  go_wp2_with (fail)
  refine hsum.mono ?_
  rintro e w2 ⟨rfl, rfl⟩
  go_wp2_with (fail)
  refine (hx _).mono ?_
  rintro e w3 ⟨rfl, rfl⟩
  go_wp2_with (fail)
  go_ret
  exact ⟨rfl, hbb.out⟩
set_option maxHeartbeats 2000000 in
theorem rname_any (r n : Int) (hv : vld r n 7 = true) (w : World) (hL : Ldr w) : Calls Tryz.prog 49 #[.agg #[.int .i64 r, .int .i64 n]] w fun e w' => e = .returned (.string (sOf (txt r n))) ∧ Below w.heap.size w w' := by
  have kb := (Below.refl _ w).alloc (Nat.le_refl _) (.cells #[.int .i64 r, .int .i64 n] 25)
  have ht := rtext_any r n _ (hL.keep kb)
  rw [txtS_ok hv, chkE_ok hv, show (⟨(txt r n).toArray⟩ : ByteArray) = sOf (txt r n) from rfl] at ht
  generalize sOf (txt r n) = S at *
  replace kb := Lib.hid kb; replace hv := Lib.hid hv
  go_enter Tryz.func49, Tryz.ntmps49
  go_wp2_with (fail)
  refine ht.mono ?_
  rintro e w1 ⟨rfl, b1⟩
  have hb := Lib.hid (kb.out.trans (b1.mono kb.out.size))
  clear b1
  go_wp2_with (fail)
  go_ret
  exact ⟨rfl, hb.out⟩
end Go.Proofs.YtlinjanflenljaaGreatDoor
