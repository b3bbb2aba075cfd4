/- Bits of bytes and of words, as the walk spells them. No program in sight. -/
import Derived.Test.YtlinjanflenljaaGreatDoorWPl
import Derived.Laws.BitsAllLaws
import Derived.Laws.BitsLemmas
import Derived.IntWalk
namespace Go.Proofs.YtlinjanflenljaaGreatDoor
open Go.RowKit
theorem nat_or128 : ∀ x, x < 256 → x ||| 128 = x % 128 + 128 := by decide +kernel
theorem or128 (k : Nat) : bits .or .u8 ((k : Int) % 256) 128 = ((k % 128 + 128 : Nat) : Int) := by
  rw [show (k : Int) % 256 = ((k % 256 : Nat) : Int) from by omega, show (128 : Int) = ((128 : Nat) : Int) from rfl, u8_or_nat _ _ (Nat.mod_lt _ (by omega)) (by omega), nat_or128 _ (Nat.mod_lt _ (by omega))]
  congr 2
  omega
theorem andNot128 (c : Nat) (h : c < 256) : bits .andNot .u8 (c : Int) 128 = ((c % 128 : Nat) : Int) := by
  rw [show (128 : Int) = ((128 : Nat) : Int) from rfl, u8_andNot_nat _ _ h (by omega)]
  congr 1
  exact nat_mask7 c
theorem u64_join (a b i : Nat) (ha : a < 2 ^ i) (hb : b % 2 ^ i = 0) (h1 : a < 18446744073709551616) (h2 : b < 18446744073709551616) : bits .or .u64 (a : Int) (b : Int) = ((a + b : Nat) : Int) := by
  rw [u64_or_nat _ _ h1 h2, Nat.or_comm, nat_join i b a hb ha, Nat.add_comm]
theorem u64_mask1 (a : Nat) (h1 : a < 18446744073709551616) : bits .and .u64 (a : Int) 1 = ((a % 2 : Nat) : Int) := by
  rw [show (1 : Int) = ((1 : Nat) : Int) from rfl, u64_and_nat _ _ h1 (by omega), nat_mask1]
theorem u64_xor0 (a : Nat) (h1 : a < 18446744073709551616) : bits .xor .u64 (a : Int) 0 = (a : Int) := by
  rw [show (0 : Int) = ((0 : Nat) : Int) from rfl, u64_xor_nat _ _ h1 (by omega), Nat.xor_zero]
theorem u64_xorM (a : Nat) (h1 : a < 18446744073709551616) : bits .xor .u64 (a : Int) 18446744073709551615 = ((18446744073709551615 - a : Nat) : Int) := by
  have h := u64_xor_nat a 18446744073709551615 h1 (by omega)
  rw [show ((18446744073709551615 : Nat) : Int) = 18446744073709551615 from rfl] at h
  rw [h]
  congr 1
  have := BitVec.toNat_not (x := BitVec.ofNat 64 a)
  have h2 : (BitVec.ofNat 64 a ^^^ BitVec.allOnes 64).toNat = a ^^^ 18446744073709551615 := by
    rw [BitVec.toNat_xor, BitVec.toNat_ofNat, BitVec.toNat_allOnes, Nat.mod_eq_of_lt h1]
  rw [BitVec.xor_allOnes, this, BitVec.toNat_ofNat, Nat.mod_eq_of_lt h1] at h2
  rw [← h2]
theorem i64_xor0 (a : Int) (h1 : -9223372036854775808 ≤ a) (h2 : a ≤ 9223372036854775807) : bits .xor .i64 a 0 = a := by
  show IntKind.i64.wrap ((BitVec.ofInt 64 a ^^^ BitVec.ofInt 64 0).toNat : Int) = a
  rw [show BitVec.ofInt 64 0 = 0#64 from rfl, BitVec.xor_zero, BitVec.toNat_ofInt, IntKind.wrap_i64]
  omega
theorem i64_xorM (a : Int) (h1 : -9223372036854775808 ≤ a) (h2 : a ≤ 9223372036854775807) : bits .xor .i64 a (-1) = -a - 1 := by
  show IntKind.i64.wrap ((BitVec.ofInt 64 a ^^^ BitVec.ofInt 64 (-1)).toNat : Int) = _
  rw [show BitVec.ofInt 64 (-1) = BitVec.allOnes 64 from rfl, BitVec.xor_allOnes, BitVec.toNat_not, BitVec.toNat_ofInt, IntKind.wrap_i64]
  omega
theorem wrapU8 (n : Int) : IntKind.u64.wrap n = n % 18446744073709551616 := by simp [IntKind.wrap, IntKind.bits, IntKind.signed]
theorem or_step (acc k x : Nat) (hx : x < 256) (ha : acc < 2 ^ (7 * k)) (h1 : acc < 18446744073709551616) (h2 : x % 128 * 2 ^ (7 * k) < 18446744073709551616) :
    bits .or .u64 (acc : Int) (IntKind.u64.wrap (IntKind.u64.wrap (bits .andNot .u8 (x : Int) 128) * 2 ^ (7 * k))) = ((acc + x % 128 * 2 ^ (7 * k) : Nat) : Int) := by
  rw [andNot128 x hx, wrapU8, wrapU8, show ((x % 128 : Nat) : Int) % 18446744073709551616 = ((x % 128 : Nat) : Int) from by omega]
  rw [show (((x % 128 : Nat) : Int) * 2 ^ (7 * k)) = ((x % 128 * 2 ^ (7 * k) : Nat) : Int) from by push_cast; rfl]
  rw [show ((x % 128 * 2 ^ (7 * k) : Nat) : Int) % 18446744073709551616 = ((x % 128 * 2 ^ (7 * k) : Nat) : Int) from by omega]
  exact u64_join acc _ (7 * k) ha (Nat.mul_mod_left _ _) h1 h2
theorem wrapU (n : Int) : IntKind.u64.wrap n = n % 18446744073709551616 := by simp [IntKind.wrap, IntKind.bits, IntKind.signed]
theorem zig_bits (a : Int) (h1 : -9223372036854775808 ≤ a) (h2 : a ≤ 9223372036854775807) :
    bits .xor .u64 (IntKind.u64.wrap (IntKind.u64.wrap a * 2)) (IntKind.u64.wrap (a / 9223372036854775808)) = ((zig a : Nat) : Int) := by
  rw [wrapU, wrapU, wrapU]
  rcases Int.lt_or_le a 0 with h | h
  · rw [show a / 9223372036854775808 % 18446744073709551616 = 18446744073709551615 from by omega, show a % 18446744073709551616 * 2 % 18446744073709551616 = (((2 * a + 18446744073709551616).toNat : Nat) : Int) from by omega, u64_xorM _ (by omega)]
    unfold zig; rw [if_pos h]; omega
  · rw [show a / 9223372036854775808 % 18446744073709551616 = 0 from by omega, show a % 18446744073709551616 * 2 % 18446744073709551616 = (((2 * a).toNat : Nat) : Int) from by omega, u64_xor0 _ (by omega)]
    unfold zig; rw [if_neg (by omega)]
theorem zag_bits (u : Nat) (h : u < 18446744073709551616) : bits .xor .i64 ((u : Int) / 2) (wrap64 (-wrap64 (bits .and .u64 (u : Int) 1))) = zag u := by
  rw [u64_mask1 u h]
  by_cases hu : u % 2 = 1
  · rw [hu, show wrap64 (-wrap64 ((1 : Nat) : Int)) = -1 from by simp [wrap64], i64_xorM _ (by omega) (by omega)]
    unfold zag; rw [if_pos hu]; omega
  · rw [show u % 2 = 0 from by omega, show wrap64 (-wrap64 ((0 : Nat) : Int)) = 0 from by simp [wrap64], i64_xor0 _ (by omega) (by omega)]
    unfold zag; rw [if_neg hu]; omega
end Go.Proofs.YtlinjanflenljaaGreatDoor
