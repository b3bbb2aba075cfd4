/- WireSizes: the plain law and the walk. -/
import Derived.Test.YtcapeefhbkgogaaHelp
import Derived.Test.YtcapeefhbkgogaaShelf
import Derived.Test.YtcapeefhbkgogaaRefX
namespace Go.Proofs.Ytcapeefhbkgogaa
open Go.RowKit
set_option linter.unusedSimpArgs false
set_option linter.unusedVariables false
set_option linter.unusedSectionVars false
set_option maxRecDepth 10000
theorem bitLen_pos {x : Nat} (h0 : x ≠ 0) (h : x < 2 ^ 64) : 1 ≤ Lib.bitLen x := by
  have := Lib.bitLen_half x h0 h
  omega
theorem bits_xor_comm (k : IntKind) (x y : Int) : bits .xor k x y = bits .xor k y x := by
  simp only [bits]; rw [BitVec.xor_comm]
theorem enc_size (n : Nat) : n < 18446744073709551616 → (enc n).length = max 1 ((Lib.bitLen n + 6) / 7) := by
  induction n using Nat.strongRecOn with
  | ind n ih =>
    intro h
    rcases Nat.lt_or_ge n 128 with h1 | h1
    · have := Lib.bitLen_le n 7 (by omega) (by omega)
      rw [enc_lt h1, List.length_singleton]
      omega
    · have h2 := Lib.bitLen_shift 7 n (by omega) (by omega)
      have h3 := bitLen_pos (x := n / 128) (by omega) (by omega)
      have h4 := ih (n / 128) (by omega) (by omega)
      rw [show (2 : Nat) ^ 7 = 128 from rfl] at h2
      rw [enc_ge h1, List.length_cons, h4]
      omega
theorem enc_shape (n : Nat) : ∀ (i : Nat) (x : UInt8), (enc n)[i]? = some x → (128 ≤ x.toNat ↔ i + 1 < (enc n).length) := by
  induction n using Nat.strongRecOn with
  | ind n ih =>
    intro i x hx
    rcases Nat.lt_or_ge n 128 with h1 | h1
    · rw [enc_lt h1] at hx ⊢
      rcases i with _ | i
      · simp only [List.getElem?_cons_zero, Option.some.injEq] at hx
        rw [← hx, ofNat_toNat (by omega), List.length_singleton]
        omega
      · simp at hx
    · rw [enc_ge h1] at hx ⊢
      have hp := enc_len_pos (n / 128)
      rcases i with _ | i
      · simp only [List.getElem?_cons_zero, Option.some.injEq] at hx
        rw [← hx, ofNat_toNat (by omega), List.length_cons]
        omega
      · rw [List.getElem?_cons_succ] at hx
        have := ih (n / 128) (by omega) i x hx
        rw [List.length_cons]
        omega
set_option maxHeartbeats 4000000 in
theorem sizes_walk (x : Nat) (hx : x < 18446744073709551616) (a : Int) (ha1 : -9223372036854775808 ≤ a) (ha2 : a ≤ 9223372036854775807) (w : World) :
    Calls Try.prog 10 #[.int .u64 x, .int .i64 a] w fun e w' => e = .returned (.bool true) ∧ Below w.heap.size w w' := by
  have hlen := enc_len hx
  have hsize : max (1 : Int) (((Lib.bitLen x : Int) + 6) / 7) = ((enc x).length : Int) := by
    have := enc_size x hx
    omega
  have hbl : Lib.bitLen x ≤ 64 := Lib.bitLen_le x 64 (by omega) (by omega)
  go_enter Try.func10, Try.ntmps10
  go_wp2_with (fail)
  refine (wNew_any _).mono ?_
  rintro e w2 ⟨rfl, rfl⟩
  have o1 := WrO.new (T := 46) w (Nat.le_refl _)
  have b1 : Below w.heap.size w (w.alloc (.cells #[.bool true, .slice none 0 0] 46)) := (Below.refl _ _).alloc (Nat.le_refl _) _
  go_wp2_with (fail)
  refine (wUint_any _ _ _ _ x _ o1.is hx (by simp)).mono ?_
  rintro e w3 ⟨rfl, t3⟩
  obtain ⟨A3, c3, o3, b3⟩ := o1.step b1 b1.size t3
  rw [List.nil_append] at o3
  clear o1 b1 t3
  go_wp2_with (fail)
  refine (wBytes_any _ _ _ _ _ o3.is (by omega)).mono ?_
  rintro e w4 ⟨L, lc, rfl, o4, b4⟩
  have rL := RB.of_own o4
  have b5 := b3.trans (b4.mono b3.size)
  have o5 := o3.below b4
  clear o4 o3 b3 b4
  go_wp2_with (fail)
  refine (Try.bits_Len64 (x : Int) _ (by omega) (by omega)).mono ?_
  rintro e w5 ⟨he, rfl⟩
  rw [Int.toNat_natCast] at he
  subst he
  go_wp2_with (fail)
  refine (wLen_any _ _ _ _ _ o5.is (by omega)).mono ?_
  rintro e w5 ⟨rfl, rfl⟩
  go_wp2_with (fail)
  go_loopw [35] (fun i wr => ∃ k : Nat, k ≤ (enc x).length ∧ i = .int .i64 k ∧ RB wr L (enc x).length (enc x) ∧ Below w.heap.size w wr) (fun i _ => (enc x).length - (intOf i).toNat)
  case atStart => exact ⟨0, by omega, rfl, rL, b5⟩
  case round =>
    obtain ⟨k, hk, rfl, rW, bW⟩ := hrel
    clear rL b5 o5
    by_cases hlt : k < (enc x).length
    · obtain ⟨ad, y, rfl, hy, hc⟩ := rW.at_ hlt
      have hsh := enc_shape x k y hy
      by_cases hl : k + 1 < (enc x).length
      · have hy1 : (128 : Int) ≤ (y.toNat : Int) := by have := hsh.2 hl; omega
        have hl1 : (k : Int) < ((enc x).length : Int) - 1 := by omega
        clear hsh hy
        go_wp2_with (fail)
        exact ⟨⟨k + 1, by omega, by go_num, by first | exact rW | exact rW.below (Below.drew (Below.refl _ _)), by first | exact bW | exact bW.drew⟩, by simp [intOf]; omega⟩
      · have hy1 : ¬ (128 : Int) ≤ (y.toNat : Int) := fun q => hl (hsh.1 (by omega))
        have hl1 : ¬ (k : Int) < ((enc x).length : Int) - 1 := by omega
        clear hsh hy
        go_wp2_with (fail)
        exact ⟨⟨k + 1, by omega, by go_num, by first | exact rW | exact rW.below (Below.drew (Below.refl _ _)), by first | exact bW | exact bW.drew⟩, by simp [intOf]; omega⟩
    · have hz : zig a < 18446744073709551616 := zig_lt ha1 ha2
      rcases Int.lt_or_le a 0 with hneg | hneg
      · have hzz : bits .xor .u64 IntKind.u64.max (IntKind.u64.wrap (IntKind.u64.wrap a * 2)) = ((zig a : Nat) : Int) := by
          rw [wrapU, wrapU, bits_xor_comm, show IntKind.u64.max = (18446744073709551615 : Int) from by decide, show a % 18446744073709551616 * 2 % 18446744073709551616 = (((2 * a + 18446744073709551616).toNat : Nat) : Int) from by omega, u64_xorM _ (by omega)]
          unfold zig; rw [if_pos hneg]; omega
        go_wp2_with (fail)
        refine (wNew_any _).mono ?_
        rintro e w6 ⟨rfl, rfl⟩
        go_wp2_with (fail)
        refine (wNew_any _).mono ?_
        rintro e w6 ⟨rfl, rfl⟩
        have hB1 : w.heap.size ≤ (wr.alloc (.cells #[.bool true, .slice none 0 0] 46)).heap.size := Nat.le_trans bW.size (by simp)
        have p1 := (WrO.new (T := 46) wr bW.size).below ((Below.refl _ _).alloc (Nat.le_refl _) (.cells #[.bool true, .slice none 0 0] 46))
        have p2 := WrO.new (T := 46) (wr.alloc (.cells #[.bool true, .slice none 0 0] 46)) hB1
        rw [World.size_alloc] at p2
        have bW2 := (bW.alloc bW.size (.cells #[.bool true, .slice none 0 0] 46)).alloc hB1 (.cells #[.bool true, .slice none 0 0] 46)
        go_wp2_with (fail)
        refine (wInt_any _ _ _ _ _ p1.is (by simp) a ha1 ha2).mono ?_
        rintro e w7 ⟨rfl, t7⟩
        obtain ⟨A7, c7, p3, bW3⟩ := p1.step bW2 (Nat.le_trans hB1 (by simp)) t7
        obtain ⟨_, _, _, _, ch7⟩ := t7
        have p4 : WrO 46 w.heap.size w7 (wr.heap.size + 1) none 0 [] := ⟨p2.is.other (by decide) ch7 (by omega) (fun k hk => by cases hk) p1.is.blk (by decide) p1.is, p2.low, p2.row⟩
        clear p1 p2 bW2 ch7
        go_wp2_with (fail)
        refine (wUint_any _ _ _ _ (zig a) _ p4.is hz (by simp)).mono ?_
        rintro e w8 ⟨rfl, t8⟩
        obtain ⟨A8, c8, p6, bW4⟩ := p4.step bW3 (by have := p4.is.lt; have := p4.low; omega) t8
        obtain ⟨_, _, _, _, ch8⟩ := t8
        have p5 := p3.is.other (by decide) ch8 (by omega) (fun k hk => by cases hk) p4.is.blk (by decide) p4.is
        have hB8 : w.heap.size ≤ w8.heap.size := by have := p6.is.lt; have := p6.low; omega
        clear p3 p4 bW3 ch8
        have hlz := enc_len hz
        have heq := Lib.hid (show (([] ++ enc (zig a)) == ([] ++ enc (zig a))) = true from beq_self_eq_true _)
        go_wp2_with (fail)
        refine (wBytes_any _ _ _ _ _ p5 (by simp; omega)).mono ?_
        rintro e w9 ⟨A9, c9, rfl, r9, b9⟩
        go_wp2_with (fail)
        refine (wBytes_any _ _ _ _ _ (p6.is.below b9) (by simp; omega)).mono ?_
        rintro e w10 ⟨A10, c10, rfl, r10, b10⟩
        have b11 := bW4.trans ((b9.trans (b10.mono b9.size)).mono hB8)
        go_wp2_with (fail)
        refine (equal_any ((RB.of_own r9).below b10) (RB.of_own r10) _ _).mono ?_
        rintro e w11 ⟨he, rfl⟩
        rw [heq.out] at he
        subst he
        go_wp2_with (fail)
        refine (works_any _).mono ?_
        rintro e w12 ⟨rfl, b12⟩
        go_wp2_with (fail)
        go_ret
        exact ⟨rfl, b11.trans (b12.mono b11.size)⟩
      · have hneg' : ¬ a < 0 := by omega
        have hzz : a * 2 = ((zig a : Nat) : Int) := by unfold zig; rw [if_neg hneg']; omega
        go_wp2_with (fail)
        refine (wNew_any _).mono ?_
        rintro e w6 ⟨rfl, rfl⟩
        go_wp2_with (fail)
        refine (wNew_any _).mono ?_
        rintro e w6 ⟨rfl, rfl⟩
        have hB1 : w.heap.size ≤ (wr.alloc (.cells #[.bool true, .slice none 0 0] 46)).heap.size := Nat.le_trans bW.size (by simp)
        have p1 := (WrO.new (T := 46) wr bW.size).below ((Below.refl _ _).alloc (Nat.le_refl _) (.cells #[.bool true, .slice none 0 0] 46))
        have p2 := WrO.new (T := 46) (wr.alloc (.cells #[.bool true, .slice none 0 0] 46)) hB1
        rw [World.size_alloc] at p2
        have bW2 := (bW.alloc bW.size (.cells #[.bool true, .slice none 0 0] 46)).alloc hB1 (.cells #[.bool true, .slice none 0 0] 46)
        go_wp2_with (fail)
        refine (wInt_any _ _ _ _ _ p1.is (by simp) a ha1 ha2).mono ?_
        rintro e w7 ⟨rfl, t7⟩
        obtain ⟨A7, c7, p3, bW3⟩ := p1.step bW2 (Nat.le_trans hB1 (by simp)) t7
        obtain ⟨_, _, _, _, ch7⟩ := t7
        have p4 : WrO 46 w.heap.size w7 (wr.heap.size + 1) none 0 [] := ⟨p2.is.other (by decide) ch7 (by omega) (fun k hk => by cases hk) p1.is.blk (by decide) p1.is, p2.low, p2.row⟩
        clear p1 p2 bW2 ch7
        go_wp2_with (fail)
        refine (wUint_any _ _ _ _ (zig a) _ p4.is hz (by simp)).mono ?_
        rintro e w8 ⟨rfl, t8⟩
        obtain ⟨A8, c8, p6, bW4⟩ := p4.step bW3 (by have := p4.is.lt; have := p4.low; omega) t8
        obtain ⟨_, _, _, _, ch8⟩ := t8
        have p5 := p3.is.other (by decide) ch8 (by omega) (fun k hk => by cases hk) p4.is.blk (by decide) p4.is
        have hB8 : w.heap.size ≤ w8.heap.size := by have := p6.is.lt; have := p6.low; omega
        clear p3 p4 bW3 ch8
        have hlz := enc_len hz
        have heq := Lib.hid (show (([] ++ enc (zig a)) == ([] ++ enc (zig a))) = true from beq_self_eq_true _)
        go_wp2_with (fail)
        refine (wBytes_any _ _ _ _ _ p5 (by simp; omega)).mono ?_
        rintro e w9 ⟨A9, c9, rfl, r9, b9⟩
        go_wp2_with (fail)
        refine (wBytes_any _ _ _ _ _ (p6.is.below b9) (by simp; omega)).mono ?_
        rintro e w10 ⟨A10, c10, rfl, r10, b10⟩
        have b11 := bW4.trans ((b9.trans (b10.mono b9.size)).mono hB8)
        go_wp2_with (fail)
        refine (equal_any ((RB.of_own r9).below b10) (RB.of_own r10) _ _).mono ?_
        rintro e w11 ⟨he, rfl⟩
        rw [heq.out] at he
        subst he
        go_wp2_with (fail)
        refine (works_any _).mono ?_
        rintro e w12 ⟨rfl, b12⟩
        go_wp2_with (fail)
        go_ret
        exact ⟨rfl, b11.trans (b12.mono b11.size)⟩
end Go.Proofs.Ytcapeefhbkgogaa
