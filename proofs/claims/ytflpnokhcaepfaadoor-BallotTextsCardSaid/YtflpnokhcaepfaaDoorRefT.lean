/- The reference's Text. -/
import Derived.Test.YtflpnokhcaepfaaDoorText
namespace Go.Proofs.YtflpnokhcaepfaaDoor
open Go.RowKit
set_option linter.unusedSimpArgs false
set_option linter.unusedVariables false
set_option linter.unusedSectionVars false
set_option maxRecDepth 10000
attribute [-go_sem] run_string_add_if
set_option maxHeartbeats 2000000 in
theorem digits_any : ∀ (k : Nat) (x : Int) (w : World), x.toNat = k → 0 ≤ x → x ≤ 9223372036854775807 → Calls Tryd.prog 33 #[.int .i64 x] w fun e w' => e = .returned (.string ⟨(Lib.decDigits x.toNat).toArray⟩) ∧ w = w' := by
  intro k
  induction k using Nat.strongRecOn with
  | _ k ih =>
    intro x w hk h0 h1
    by_cases hlt : x < 10
    · rw [Lib.decDigits_one (by omega)]
      have hp : (⟨#[48, 49, 50, 51, 52, 53, 54, 55, 56, 57]⟩ : ByteArray).extract x.toNat (x.toNat + 1) = ⟨[UInt8.ofNat (48 + x.toNat)].toArray⟩ := by
        have : x.toNat = 0 ∨ x.toNat = 1 ∨ x.toNat = 2 ∨ x.toNat = 3 ∨ x.toNat = 4 ∨ x.toNat = 5 ∨ x.toNat = 6 ∨ x.toNat = 7 ∨ x.toNat = 8 ∨ x.toNat = 9 := by omega
        rcases this with e | e | e | e | e | e | e | e | e | e <;> rw [e] <;> decide +kernel
      obtain ⟨d, rfl⟩ : ∃ d : Nat, x = d := ⟨x.toNat, by omega⟩
      simp only [Int.toNat_natCast] at hp ⊢
      have hfin := Lib.hid hp
      have c1 : (0 : Int) ≤ ↑d := by omega
      have c2 : (↑d : Int) ≤ ↑d + 1 := by omega
      have c3 : (↑d + 1 : Int) ≤ 10 := by omega
      clear ih hp hk
      go_enter Tryd.func33, Tryd.ntmps33
      go_wp2
      go_ret
      exact ⟨by rw [← hfin.out]; rfl, rfl⟩
    · have hd : Lib.decDigits x.toNat = Lib.decDigits (x / 10).toNat ++ Lib.decDigits (x % 10).toNat := by
        rw [Lib.decDigits, dif_neg (by omega), show (x / 10).toNat = x.toNat / 10 from by omega, Lib.decDigits_one (i := (x % 10).toNat) (by omega), show (x % 10).toNat = x.toNat % 10 from by omega]
      have i1 := Lib.hid (fun w => ih ((x / 10).toNat) (by omega) (x / 10) w rfl (by omega) (by omega))
      have i2 := Lib.hid (fun w => ih ((x % 10).toNat) (by omega) (x % 10) w rfl (by omega) (by omega))
      rw [hd]
      obtain ⟨S, hS⟩ : ∃ S : ByteArray, S = ⟨(Lib.decDigits (x / 10).toNat).toArray⟩ := ⟨_, rfl⟩
      obtain ⟨R, hR⟩ : ∃ S : ByteArray, S = ⟨(Lib.decDigits (x % 10).toNat).toArray⟩ := ⟨_, rfl⟩
      have hSR : (⟨(Lib.decDigits (x / 10).toNat ++ Lib.decDigits (x % 10).toNat).toArray⟩ : ByteArray) = S ++ R := by
        rw [hS, hR]; apply ByteArray.ext; simp
      have hn : ∀ u : Nat, u ≤ 9223372036854775807 → (Lib.decDigits u).length ≤ 100 := fun u hu => by
        rw [Lib.decDigits_length]
        have hb : ∀ (k u : Nat), u < 10 ^ (k + 1) → Lib.nDigits u ≤ k + 1 := by
          intro k
          induction k with
          | zero => intro u hu; rw [Lib.nDigits_small (by simpa using hu)]; omega
          | succ k ih =>
            intro u hu
            by_cases h : u < 10
            · rw [Lib.nDigits_small h]; omega
            · rw [Lib.nDigits_big h]
              have := ih (u / 10) (by rw [Nat.pow_succ] at hu; omega)
              omega
        exact Nat.le_trans (hb 18 u (by omega)) (by omega)
      have hs1 : S.size ≤ 100 := by rw [hS]; exact hn _ (by omega)
      have hs2 : R.size ≤ 100 := by rw [hR]; exact hn _ (by omega)
      have ha : ∀ W : World, (Op.stringOp .add S R).run Tryd.prog W = .ok (.string (S ++ R)) W := fun W => run_string_add_sum W _ _ (by omega)
      have HS := Lib.hid hS; have HR := Lib.hid hR; have hfin := Lib.hid hSR
      clear hS hR hSR hn hd ih hk
      go_enter Tryd.func33, Tryd.ntmps33
      go_wp2_with (fail)
      refine (i1.out _).mono ?_
      rintro e w' ⟨he, rfl⟩
      rw [← HS.out] at he
      subst he
      go_wp2_with (fail)
      refine (i2.out _).mono ?_
      rintro e w' ⟨he, rfl⟩
      rw [← HR.out] at he
      subst he
      go_wp2_with (fail)
      go_ret
      exact ⟨by rw [hfin.out]; rfl, rfl⟩
theorem digits_at (x : Int) (h0 : 0 ≤ x) (h1 : x ≤ 9223372036854775807) (S : ByteArray) (hS : Hid (S = ⟨(Lib.decDigits x.toNat).toArray⟩)) (w : World) : Calls Tryd.prog 33 #[.int .i64 x] w fun e w' => e = .returned (.string S) ∧ w' = w := by
  have hS : S = _ := hS
  subst hS
  exact (digits_any _ x w rfl h0 h1).mono fun _ _ ⟨he, hb⟩ => ⟨he, hb.symm⟩
set_option maxHeartbeats 2000000 in
theorem rtext_any (r n : Int) (w : World) (hL : Ldr w) : Calls Tryd.prog 20 #[.agg #[.int .i64 r, .int .i64 n]] w fun e w' => e = .returned (.tuple #[.string (txtS r n), .int .i64 (chkE r n 7)]) ∧ Below w.heap.size w w' := by
  rcases Bool.eq_false_or_eq_true (vld r n 7) with hv | hv
  · have hv' := (vld_iff r n 7).1 hv
    rw [txtS_ok hv, chkE_ok hv, ← txt_str]
    have hck := Lib.hid (chkE_ok hv)
    have hr0 : 0 ≤ r := by omega
    have hn0 : 0 ≤ n := by omega
    have hr1 : r ≤ 9223372036854775807 := by omega
    have hn1 : n ≤ 9223372036854775807 := by omega
    have hs := TextS.new (r := r) (n := n) hL
    obtain ⟨S, hS⟩ : ∃ S : ByteArray, S = ⟨(Lib.decDigits r.toNat).toArray⟩ := ⟨_, rfl⟩
    obtain ⟨R, hR⟩ : ∃ S : ByteArray, S = ⟨(Lib.decDigits n.toNat).toArray⟩ := ⟨_, rfl⟩
    have hs10 : S.size ≤ 10 := by rw [hS]; exact dec_len (by omega)
    have hr10 : R.size ≤ 10 := by rw [hR]; exact dec_len (by omega)
    rw [← hS, ← hR]
    replace hS := Lib.hid hS
    have hRR := Lib.hid hR
    have ha1 : ∀ W : World, (Op.stringOp .add S ⟨#[46]⟩).run Tryd.prog W = .ok (.string (S ++ ⟨#[46]⟩)) W := fun W => run_string_add_sum W _ _ (by show S.size + 1 ≤ _; omega)
    have ha2 : ∀ W : World, (Op.stringOp .add (S ++ ⟨#[46]⟩) R).run Tryd.prog W = .ok (.string (S ++ ⟨#[46]⟩ ++ R)) W := fun W => run_string_add_sum W _ _ (by rw [ByteArray.size_append]; show S.size + 1 + _ ≤ _; omega)
    clear hv hv' hR
    go_enter Tryd.func20, Tryd.ntmps20
    go_wp2_with (fail)
    refine (rcheck_any r n 7 _).mono ?_
    rintro e w1 ⟨he, b1⟩
    rw [hck.out] at he
    subst he
    have hR := Lib.hid (hs.keep b1)
    clear hs
    have q0 := blkC hR.out.blk 0; have q1 := blkC hR.out.blk 1
    go_wp2_with (fail)
    go_quiet (first | (go_at_call 33; with_reducible exact Calls.quiet_of_same (digits_at r hr0 hr1 S hS _)) | (go_at_call 33; with_reducible exact Calls.quiet_of_same (digits_at n hn0 hn1 R hRR _)))
    all_goals
      have hfin := hR.out.bel
      go_wp2_with (fail)
      go_ret2
      exact ⟨by simp, by first | exact hfin | exact below_drewN hfin _⟩
  · rw [txtS_bad hv, chkE_bad hv]
    have hck := Lib.hid (chkE_bad hv)
    have hs := TextS.new (r := r) (n := n) hL
    clear hv
    go_enter Tryd.func20, Tryd.ntmps20
    go_wp2_with (fail)
    refine (rcheck_any r n 7 _).mono ?_
    rintro e w1 ⟨he, b1⟩
    rw [hck.out] at he
    subst he
    have hR := Lib.hid (hs.keep b1).bel
    clear hs
    go_wp2_with (fail)
    go_ret2
    exact ⟨rfl, hR.out⟩
end Go.Proofs.YtflpnokhcaepfaaDoor
