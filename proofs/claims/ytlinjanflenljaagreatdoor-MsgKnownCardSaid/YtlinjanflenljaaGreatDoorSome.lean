/- Texts of checksums, values and ballots. -/
import Derived.Test.YtlinjanflenljaaGreatDoorCrc
import Derived.Test.YtlinjanflenljaaGreatDoorRefX
import Derived.Test.YtlinjanflenljaaGreatDoorText
import Derived.Test.YtlinjanflenljaaGreatDoorWB
namespace Go.Proofs.YtlinjanflenljaaGreatDoor
open Go.RowKit
set_option linter.unusedSimpArgs false
set_option linter.unusedVariables false
set_option linter.unusedSectionVars false
set_option maxRecDepth 10000
theorem repeatL_one (c : UInt8) : ∀ n, Lib.repeatL [c] n = List.replicate n c
  | 0 => rfl
  | n + 1 => by
    show c :: Lib.repeatL [c] n = _
    rw [repeatL_one c n, List.replicate_succ]
theorem sOf_app (a b : List UInt8) : sOf a ++ sOf b = sOf (a ++ b) := by
  apply ByteArray.ext
  simp [sOf]
/-- A sum of named strings. -/
theorem add_run {S T R : ByteArray} {a b : List UInt8} (hS : S = sOf a) (hT : T = sOf b) (hR : R = sOf (a ++ b)) (hl : a.length + b.length ≤ 140737488355328) (W : World) : (Op.stringOp .add S T).run Tryz.prog W = .ok (.string R) W := by
  subst hS hT hR
  rw [← sOf_app]
  exact run_string_add_sum W _ _ (by rw [sOf_size, sOf_size]; omega)
theorem nd_le : ∀ (k u : Nat), u < 10 ^ (k + 1) → Lib.nDigits u ≤ k + 1
  | 0, u, h => by rw [Lib.nDigits_small (by omega)]; omega
  | k + 1, u, h => by
    rcases Nat.lt_or_ge u 10 with q | q
    · rw [Lib.nDigits_small q]; omega
    · rw [Lib.nDigits_big (by omega)]
      have := nd_le k (u / 10) (by rw [Nat.pow_succ] at h; exact Nat.div_lt_of_lt_mul (by rw [Nat.mul_comm]; exact h))
      omega
theorem dec_len20 (u : Nat) (h : u ≤ 9223372036854775807) : (Lib.decDigits u).length ≤ 20 := by
  rw [Lib.decDigits_length]
  exact nd_le 19 u (by omega)
theorem hex8_len (u : Nat) : (hex8 u).length = 8 := hexL_len 8 u
attribute [-go_sem] run_string_add_if
set_option maxHeartbeats 4000000 in
theorem hex_any (u : Nat) (hu : u < 4294967296) (w : World) (hL : Ldr w) : Calls Tryz.prog 112 #[.int .u32 u] w fun e w' => e = .returned (.string (sOf (hex8 u))) ∧ Below w.heap.size w w' := by
  have hf := formatUint_any u hu w hL
  obtain ⟨p1, p2⟩ := hex8_pad hu
  obtain ⟨D, hD⟩ : ∃ D, D = sOf (hexD u) := ⟨_, rfl⟩
  rw [show (⟨(hexD u).toArray⟩ : ByteArray) = D from hD.symm] at hf
  obtain ⟨n, hn⟩ : ∃ n, n = 8 - (hexD u).length := ⟨_, rfl⟩
  have hDs : D.size = (hexD u).length := by rw [hD, sOf_size]
  have hn1 : (8 : Int) - (D.size : Int) = (n : Int) := by omega
  have hr := fun W => Tryz.strings_Repeat ⟨#[48]⟩ n W (by omega) (by show 1 * n ≤ _; omega)
  obtain ⟨Z, hZ⟩ : ∃ Z, Z = sOf (List.replicate n 48) := ⟨_, rfl⟩
  rw [show (Lib.repeatL (⟨#[48]⟩ : ByteArray).data.toList n) = List.replicate n 48 from repeatL_one 48 n, show (⟨(List.replicate n 48).toArray⟩ : ByteArray) = Z from hZ.symm] at hr
  obtain ⟨R, hR⟩ : ∃ R, R = sOf (hex8 u) := ⟨_, rfl⟩
  have ha := add_run hZ hD (hR.trans (by rw [← p2, hn])) (by simp; omega)
  have u64 : (u : Int) % 18446744073709551616 = (u : Int) := by omega
  rw [← hR]
  replace hD := Lib.hid hD; replace hZ := Lib.hid hZ; replace hR := Lib.hid hR; replace hn := Lib.hid hn; replace hDs := Lib.hid hDs; replace p2 := Lib.hid p2
  go_enter Tryz.func112, Tryz.ntmps112
  go_wp2_with (fail)
  refine hf.mono ?_
  rintro e w1 ⟨rfl, b1⟩
  replace b1 := Lib.hid b1
  go_wp2_with (fail)
  refine (hr _).mono ?_
  rintro e w2 ⟨rfl, b2⟩
  have hb := Lib.hid (b1.out.trans (b2.mono b1.out.size))
  clear b2
  go_wp2_with (fail)
  go_ret
  exact ⟨rfl, hb.out⟩
set_option maxHeartbeats 4000000 in
theorem some_any (v : List UInt8) (hv : v.length ≤ 70368744177664) (w : World) (hL : Ldr w) : Calls Tryz.prog 81 #[.string (sOf v)] w fun e w' => e = .returned (.string (sOf (someV v))) ∧ Below w.heap.size w w' := by
  have hi := itoa_any (v.length : Int) (by omega) (by omega) w hL
  rw [Int.toNat_natCast] at hi
  have hsz := sOf_size v
  obtain ⟨S, hS⟩ : ∃ S, S = sOf (Lib.decDigits v.length) := ⟨_, rfl⟩
  rw [show (⟨(Lib.decDigits v.length).toArray⟩ : ByteArray) = S from hS.symm] at hi
  obtain ⟨T, hT⟩ : ∃ T, T = sOf (Lib.decDigits v.length ++ [35]) := ⟨_, rfl⟩
  obtain ⟨H, hH⟩ : ∃ H, H = sOf (hex8 (crcN v)) := ⟨_, rfl⟩
  obtain ⟨R, hR⟩ : ∃ R, R = sOf (someV v) := ⟨_, rfl⟩
  have hdl := dec_len20 v.length (by omega)
  have h8 := hex8_len (crcN v)
  have a1 := add_run (T := ⟨#[35]⟩) hS rfl hT (by simp; omega)
  have a2 := add_run hT hH (hR.trans (by simp [someV])) (by simp; omega)
  have hx := fun W hW => hex_any (crcN v) (crcN_lt v) W hW
  rw [← hH] at hx
  have hsv := fun W => str_bytes (sOf v) W
  rw [sOf_list] at hsv
  rw [← hR]
  have hl1 : ((sOf v).size : Int) = (v.length : Int) := by rw [hsz]
  have hsz' := Lib.hid hsz
  replace hS := Lib.hid hS; replace hT := Lib.hid hT; replace hH := Lib.hid hH; replace hR := Lib.hid hR; replace h8 := Lib.hid h8; replace hdl := Lib.hid hdl; replace hsz := Lib.hid hsz; replace hsv := Lib.hid hsv
  generalize sOf v = V at *
  go_enter Tryz.func81, Tryz.ntmps81
  go_wp2_with (fail)
  refine hi.mono ?_
  rintro e w1 ⟨rfl, b1⟩
  obtain ⟨c1, W1, hrun, hrb, hb⟩ := hsv.out w1
  have hL1 := hL.keep (b1.trans (hb.mono b1.size))
  have hsum := sum_any _ V.size c1 v W1 hL1 hrb (by have := hsz'.out; omega)
  have hbb := Lib.hid (b1.trans (hb.mono b1.size))
  replace hrb := Lib.hid hrb
  clear b1 hb
  go_wp2_with (fail)
  refine hsum.mono ?_
  rintro e w2 ⟨rfl, rfl⟩
  go_wp2_with (fail)
  refine (hx _ hL1).mono ?_
  rintro e w3 ⟨rfl, b3⟩
  have hb3 := Lib.hid (hbb.out.trans (b3.mono hbb.out.size))
  clear b3
  go_wp2_with (fail)
  go_ret
  exact ⟨rfl, hb3.out⟩
set_option maxHeartbeats 2000000 in
theorem name_any (r n : Int) (hv : vld r n 7 = true) (w : World) (hL : Ldr w) : Calls Tryz.prog 62 #[.agg #[.int .i64 r, .int .i64 n]] w fun e w' => e = .returned (.string (sOf (txt r n))) ∧ Below w.heap.size w w' := by
  have kb := (Below.refl _ w).alloc (Nat.le_refl _) (.cells #[.int .i64 r, .int .i64 n] 25)
  have ht := text_any r n _ (hL.keep kb)
  rw [txtS_ok hv, chkE_ok hv, show (⟨(txt r n).toArray⟩ : ByteArray) = sOf (txt r n) from rfl] at ht
  generalize sOf (txt r n) = S at *
  replace kb := Lib.hid kb; replace hv := Lib.hid hv
  go_enter Tryz.func62, Tryz.ntmps62
  go_wp2_with (fail)
  refine ht.mono ?_
  rintro e w1 ⟨rfl, b1⟩
  have hb := Lib.hid (kb.out.trans (b1.mono kb.out.size))
  clear b1
  go_wp2_with (fail)
  go_ret
  exact ⟨rfl, hb.out⟩
section
variable (m : Mg) (A : Option Addr) (c : Nat) (w : World) (hL : Ldr w)
include hL
set_option maxHeartbeats 2000000 in
theorem tx0_any (hv : vld m.ro m.no 7 = true) : Calls Tryz.prog 61 #[.agg #[.int .i64 m.k, .int .i64 m.fr, .int .i64 m.tt, .int .i64 m.ro, .int .i64 m.no, .int .i64 m.sl, .int .i64 m.nu, .string (sOf m.v), .slice A m.l.length c]] w fun e w' => e = .returned (.string (sOf (fText 0 m))) ∧ Below w.heap.size w w' := by
  have kb := (Below.refl _ w).alloc (Nat.le_refl _) (.cells #[.int .i64 m.k, .int .i64 m.fr, .int .i64 m.tt, .int .i64 m.ro, .int .i64 m.no, .int .i64 m.sl, .int .i64 m.nu, .string (sOf m.v), .slice A m.l.length c] 28)
  have hc := name_any m.ro m.no hv _ (hL.keep kb)
  have hfin : sOf (fText 0 m) = sOf (txt m.ro m.no) := rfl
  rw [hfin]
  generalize sOf (txt m.ro m.no) = S at *
  replace kb := Lib.hid kb
  clear hfin
  go_enter Tryz.func61, Tryz.ntmps61
  go_wp2_with (fail)
  refine hc.mono ?_
  rintro e w1 ⟨rfl, b1⟩
  have hb := Lib.hid (kb.out.trans (b1.mono kb.out.size))
  clear b1
  go_wp2_with (fail)
  go_ret
  exact ⟨rfl, hb.out⟩
set_option maxHeartbeats 2000000 in
theorem tx1_any (h0 : 0 ≤ m.sl ∧ m.sl ≤ 4096) : Calls Tryz.prog 69 #[.agg #[.int .i64 m.k, .int .i64 m.fr, .int .i64 m.tt, .int .i64 m.ro, .int .i64 m.no, .int .i64 m.sl, .int .i64 m.nu, .string (sOf m.v), .slice A m.l.length c]] w fun e w' => e = .returned (.string (sOf (fText 1 m))) ∧ Below w.heap.size w w' := by
  have kb := (Below.refl _ w).alloc (Nat.le_refl _) (.cells #[.int .i64 m.k, .int .i64 m.fr, .int .i64 m.tt, .int .i64 m.ro, .int .i64 m.no, .int .i64 m.sl, .int .i64 m.nu, .string (sOf m.v), .slice A m.l.length c] 28)
  have hc := itoa_any m.sl h0.1 (by omega) _ (hL.keep kb)
  have hfin : sOf (fText 1 m) = (⟨(Lib.decDigits m.sl.toNat).toArray⟩ : ByteArray) := rfl
  rw [hfin]
  generalize (⟨(Lib.decDigits m.sl.toNat).toArray⟩ : ByteArray) = S at *
  replace kb := Lib.hid kb
  clear hfin
  go_enter Tryz.func69, Tryz.ntmps69
  go_wp2_with (fail)
  refine hc.mono ?_
  rintro e w1 ⟨rfl, b1⟩
  have hb := Lib.hid (kb.out.trans (b1.mono kb.out.size))
  clear b1
  go_wp2_with (fail)
  go_ret
  exact ⟨rfl, hb.out⟩
set_option maxHeartbeats 2000000 in
theorem tx2_any (h0 : 0 ≤ m.nu ∧ m.nu ≤ 2147483647) : Calls Tryz.prog 74 #[.agg #[.int .i64 m.k, .int .i64 m.fr, .int .i64 m.tt, .int .i64 m.ro, .int .i64 m.no, .int .i64 m.sl, .int .i64 m.nu, .string (sOf m.v), .slice A m.l.length c]] w fun e w' => e = .returned (.string (sOf (fText 2 m))) ∧ Below w.heap.size w w' := by
  have kb := (Below.refl _ w).alloc (Nat.le_refl _) (.cells #[.int .i64 m.k, .int .i64 m.fr, .int .i64 m.tt, .int .i64 m.ro, .int .i64 m.no, .int .i64 m.sl, .int .i64 m.nu, .string (sOf m.v), .slice A m.l.length c] 28)
  have hc := itoa_any m.nu h0.1 (by omega) _ (hL.keep kb)
  have hfin : sOf (fText 2 m) = (⟨(Lib.decDigits m.nu.toNat).toArray⟩ : ByteArray) := rfl
  rw [hfin]
  generalize (⟨(Lib.decDigits m.nu.toNat).toArray⟩ : ByteArray) = S at *
  replace kb := Lib.hid kb
  clear hfin
  go_enter Tryz.func74, Tryz.ntmps74
  go_wp2_with (fail)
  refine hc.mono ?_
  rintro e w1 ⟨rfl, b1⟩
  have hb := Lib.hid (kb.out.trans (b1.mono kb.out.size))
  clear b1
  go_wp2_with (fail)
  go_ret
  exact ⟨rfl, hb.out⟩
set_option maxHeartbeats 2000000 in
theorem tx3_any (hv : m.v.length ≤ 65536) : Calls Tryz.prog 80 #[.agg #[.int .i64 m.k, .int .i64 m.fr, .int .i64 m.tt, .int .i64 m.ro, .int .i64 m.no, .int .i64 m.sl, .int .i64 m.nu, .string (sOf m.v), .slice A m.l.length c]] w fun e w' => e = .returned (.string (sOf (fText 3 m))) ∧ Below w.heap.size w w' := by
  have kb := (Below.refl _ w).alloc (Nat.le_refl _) (.cells #[.int .i64 m.k, .int .i64 m.fr, .int .i64 m.tt, .int .i64 m.ro, .int .i64 m.no, .int .i64 m.sl, .int .i64 m.nu, .string (sOf m.v), .slice A m.l.length c] 28)
  have hc := some_any m.v (by omega) _ (hL.keep kb)
  have hfin : sOf (fText 3 m) = sOf (someV m.v) := rfl
  rw [hfin]
  generalize sOf (someV m.v) = S at *
  replace kb := Lib.hid kb
  clear hfin
  go_enter Tryz.func80, Tryz.ntmps80
  go_wp2_with (fail)
  refine hc.mono ?_
  rintro e w1 ⟨rfl, b1⟩
  have hb := Lib.hid (kb.out.trans (b1.mono kb.out.size))
  clear b1
  go_wp2_with (fail)
  go_ret
  exact ⟨rfl, hb.out⟩
end
end Go.Proofs.YtlinjanflenljaaGreatDoor
