/- Checksums: the program's eight steps, and what they make of bytes. -/
import Derived.Test.YtlinjanflenljaaGreatDoorBLib
import Derived.Test.YtlinjanflenljaaGreatDoorMsgP
import Derived.Test.YtlinjanflenljaaGreatDoorRead
import Derived.Laws.BitsAllLaws
import Derived.Test.YtlinjanflenljaaGreatDoorTake
namespace Go.Proofs.YtlinjanflenljaaGreatDoor
open Go.RowKit
set_option linter.unusedSimpArgs false
set_option linter.unusedVariables false
set_option linter.unusedSectionVars false
set_option maxRecDepth 10000
theorem fourT_nat (i : Nat) : fourT.getD i 0 = (four i : Int) := by
  rcases Nat.lt_or_ge i 16 with h | h
  · exact (by decide : ∀ i < 16, fourT.getD i 0 = (four i : Int)) i h
  · unfold four
    rw [List.getD_eq_getElem?_getD, List.getD_eq_getElem?_getD, List.getElem?_eq_none (by simpa [fourT] using h), List.getElem?_eq_none (by simpa [fourN] using h)]; rfl
theorem and15 {r : Nat} (hr : r < 4294967296) : bits .and .u32 (r : Int) 15 = ((r % 16 : Nat) : Int) := by
  rw [show (15 : Int) = ((15 : Nat) : Int) from rfl, u32_and_nat _ _ hr (by omega), nat_mask4]
theorem xor_half_ {r : Nat} (hr : r < 4294967296) : bits .xor .u32 ((r : Int) / 16) (four (r % 16) : Int) = (half r : Int) := by
  rw [show (r : Int) / 16 = ((r / 16 : Nat) : Int) from by omega, u32_xor_nat _ _ (by omega) (four_lt _)]; rfl
theorem xor_max {r : Nat} (hr : r < 4294967296) : bits .xor .u32 4294967295 (r : Int) = ((4294967295 - r : Nat) : Int) := by
  rw [show (4294967295 : Int) = ((4294967295 : Nat) : Int) from rfl, u32_xor_nat _ _ (by omega) hr]
  congr 1
  have h2 : (BitVec.allOnes 32 ^^^ BitVec.ofNat 32 r).toNat = 4294967295 ^^^ r := by
    rw [BitVec.toNat_xor, BitVec.toNat_ofNat, BitVec.toNat_allOnes, Nat.mod_eq_of_lt hr]
  rw [BitVec.allOnes_xor, BitVec.toNat_not, BitVec.toNat_ofNat, Nat.mod_eq_of_lt hr] at h2
  rw [← h2]
set_option maxHeartbeats 2000000 in
theorem eight_any (r : Nat) (hr : r < 4294967296) (w : World) (hL : Ldr w) : Calls Tryz.prog 140 #[.int .u32 r] w fun e w' => e = .returned (.int .u32 (eightN r)) ∧ w = w' := by
  have hh := half_lt hr
  have e1 := and15 hr
  have c1 := hL.four (r % 16) (by omega)
  have e2 := xor_half_ hr
  have e3 := and15 hh
  have c2 := hL.four (half r % 16) (by omega)
  have e4 := xor_half_ hh
  rw [fourT_nat] at c1 c2
  have l1 : r % 16 < 16 := by omega
  have l2 : half r % 16 < 16 := by omega
  have hfin := Lib.hid (show half (half r) = eightN r from rfl)
  generalize half (half r) = r2 at *
  generalize half r % 16 = i2 at *
  generalize half r = r1 at *
  generalize r % 16 = i1 at *
  go_enter Tryz.func140, Tryz.ntmps140
  go_wp2_with (fail)
  go_ret
  exact ⟨by rw [hfin.out]; rfl, rfl⟩
def crcMore (s : Nat) (b : List UInt8) : Nat := 4294967295 - crcGo (4294967295 - s) b
theorem crcMore_zero (b : List UInt8) : crcMore 0 b = crcN b := rfl
theorem xor_byte {r : Nat} (hr : r < 4294967296) (x : UInt8) : bits .xor .u32 (r : Int) (x.toNat : Int) = ((r ^^^ x.toNat : Nat) : Int) := by
  have := x.toNat_lt
  rw [u32_xor_nat _ _ hr (by omega)]
set_option maxHeartbeats 2000000 in
theorem more_any (s : Nat) (hs : s < 4294967296) (A : Option Addr) (n c : Nat) (xs : List UInt8) (w : World) (hL : Ldr w) (h : RB w A n xs) (hn : n ≤ 70368744177664) :
    Calls Tryz.prog 128 #[.int .u32 s, .slice A n c] w fun e w' => e = .returned (.int .u32 (crcMore s xs)) ∧ w = w' := by
  have e0 := xor_max hs
  have m1 : IntKind.u32.max = 4294967295 := by rfl
  have m2 : IntKind.u32.signed = false := by rfl
  obtain ⟨z, hz⟩ : ∃ z, z = 4294967295 - s := ⟨_, rfl⟩
  rw [← hz] at e0
  have hz4 : z < 4294967296 := by omega
  have hfin : crcMore s xs = 4294967295 - crcGo z xs := by rw [hz]; rfl
  have hl := Lib.hid h.1
  replace hz := Lib.hid hz; replace hfin := Lib.hid hfin
  go_enter Tryz.func128, Tryz.ntmps128
  go_wp2_with (fail)
  go_loop [5, 12] (fun r i => ∃ k : Nat, k ≤ n ∧ i = .int .i64 k ∧ r = .int .u32 (crcGo z (xs.take k))) (fun _ i => n - (intOf i).toNat)
  case atStart => exact ⟨0, by omega, rfl, rfl⟩
  case round =>
    obtain ⟨k, hk, rfl, rfl⟩ := hrel
    have hr := crcGo_lt (xs.take k) z hz4
    by_cases hlt : k < n
    · obtain ⟨ad, x, rfl, hx, hc⟩ := h.at_ hlt
      have hsn := Lib.hid (show crcGo z (xs.take (k + 1)) = takeN (crcGo z (xs.take k)) x from by rw [List.take_add_one, hx]; exact crcGo_snoc _ _ _)
      have hxl : x.toNat < 256 := x.toNat_lt
      have e1 := xor_byte hr x
      have e2 := xor_byte_lt x hr
      have e3 := Lib.hid (show takeN (crcGo z (xs.take k)) x = eightN (crcGo z (xs.take k) ^^^ x.toNat) from rfl)
      generalize crcGo z (xs.take k) = r at *
      generalize hy : r ^^^ x.toNat = y at *
      replace hy := Lib.hid hy
      have k0 : (0 : Int) ≤ k := by omega
      have k1 : (k : Int) < (n : Int) := by omega
      have x1 : (x.toNat : Int) % 4294967296 = (x.toNat : Int) := by omega
      clear h hx
      go_wp2_with (fail)
      refine (eight_any y e2 w hL).mono ?_
      rintro e w1 ⟨rfl, rfl⟩
      go_wp2_with (fail)
      exact ⟨⟨k + 1, by omega, by go_num, by rw [hsn.out, e3.out]⟩, by simp [intOf]; omega⟩
    · obtain rfl : k = n := by omega
      have hft := Lib.hid (show xs.take k = xs from by rw [← hl.out, List.take_length])
      have e1 := xor_max hr
      have hf2 := Lib.hid (show crcMore s xs = 4294967295 - crcGo z (xs.take k) from by rw [hft.out, hfin.out])
      clear hfin hft
      generalize crcGo z (xs.take k) = r at *
      generalize 4294967295 - r = y at *
      go_wp2_with (fail)
      go_ret
      exact ⟨by rw [hf2.out]; rfl, rfl⟩
set_option maxHeartbeats 2000000 in
theorem sum_any (A : Option Addr) (n c : Nat) (xs : List UInt8) (w : World) (hL : Ldr w) (h : RB w A n xs) (hn : n ≤ 70368744177664) :
    Calls Tryz.prog 113 #[.slice A n c] w fun e w' => e = .returned (.int .u32 (crcN xs)) ∧ w = w' := by
  have h0 := more_any 0 (by omega) A n c xs w hL h hn
  rw [crcMore_zero] at h0
  go_enter Tryz.func113, Tryz.ntmps113
  go_wp2_with (fail)
  refine h0.mono ?_
  rintro e w1 ⟨rfl, rfl⟩
  go_wp2_with (fail)
  go_ret
  exact ⟨rfl, rfl⟩
end Go.Proofs.YtlinjanflenljaaGreatDoor

namespace Go.Proofs.YtlinjanflenljaaGreatDoor
open Go.RowKit
set_option linter.unusedSimpArgs false
set_option linter.unusedVariables false
set_option linter.unusedSectionVars false
set_option maxRecDepth 10000
set_option maxHeartbeats 2000000 in
theorem pow2_16 (w : World) : Calls Tryz.prog 144 #[.int .i64 16] w fun e w' => e = .returned (.bool true) ∧ w = w' := by
  have hb : bits .and .i64 16 15 = 0 := by rfl
  go_enter Tryz.func144, Tryz.ntmps144
  go_wp2_with (fail)
  go_ret
  exact ⟨rfl, rfl⟩
set_option maxHeartbeats 2000000 in
theorem tz64_16 (w : World) (hL : Ldr w) : Calls Tryz.prog 151 #[.int .u64 16] w fun e w' => e = .returned (.int .i64 4) ∧ w = w' := by
  have c := hL.bruAt 15 (by omega)
  rw [show bruT.getD 15 0 = 4 from rfl] at c
  have hb : bits .and .u64 16 18446744073709551600 = 16 := by rfl
  have e1 : IntKind.u64.wrap (-16) = 18446744073709551600 := by rfl
  have e2 : IntKind.u64.wrap 4573923408821661840 = 4573923408821661840 := by rfl
  go_enter Tryz.func151, Tryz.ntmps151
  go_wp2_with (fail)
  go_ret
  exact ⟨rfl, rfl⟩
set_option maxHeartbeats 2000000 in
theorem tz_16 (w : World) (hL : Ldr w) : Calls Tryz.prog 145 #[.int .u64 16] w fun e w' => e = .returned (.int .i64 4) ∧ w = w' := by
  go_enter Tryz.func145, Tryz.ntmps145
  go_wp2_with (fail)
  refine (tz64_16 _ hL).mono ?_
  rintro e w1 ⟨rfl, rfl⟩
  go_wp2_with (fail)
  go_ret
  exact ⟨rfl, rfl⟩
theorem idx_dig (d : Nat) (hd : d < 16) (W : World) : (Instr.index 9 (.string ⟨(48 :: 49 :: 50 :: 51 :: 52 :: 53 :: 54 :: 55 :: 56 :: 57 :: 97 :: 98 :: 99 :: 100 :: 101 :: 102 :: 103 :: 104 :: 105 :: 106 :: 107 :: 108 :: 109 :: 110 :: 111 :: 112 :: 113 :: 114 :: 115 :: 116 :: 117 :: 118 :: 119 :: 120 :: 121 :: 122 :: []).toArray⟩) (.int .u64 d)).run Tryz.prog W = .ok (.int .u8 ((hexC d).toNat : Int)) W := by
  rw [run_index_string _ _ _ _ _ Tryz.underlying9]
  have : d = 0 ∨ d = 1 ∨ d = 2 ∨ d = 3 ∨ d = 4 ∨ d = 5 ∨ d = 6 ∨ d = 7 ∨ d = 8 ∨ d = 9 ∨ d = 10 ∨ d = 11 ∨ d = 12 ∨ d = 13 ∨ d = 14 ∨ d = 15 := by omega
  rcases this with rfl | rfl | rfl | rfl | rfl | rfl | rfl | rfl | rfl | rfl | rfl | rfl | rfl | rfl | rfl | rfl <;> rfl
/-- What the loop keeps: the digits of v are still to be written, ahead of place i. -/
structure FB (w : World) (u i v : Nat) (W : World) : Prop where
  bel : Below w.heap.size w W
  lo : 58 ≤ i
  hi : i ≤ 65
  lt : v < 16 ^ (i - 57)
  blk : ∃ (C : Array Value) (D : List UInt8), W.heap[w.heap.size]? = some (.cells C 156 (0, 0)) ∧ C.size = 65 ∧ D.length + i = 65 ∧ C.toList.drop i = bvs D ∧ hexD u = hexD v ++ D
theorem FB.start (w : World) (u : Nat) (hu : u < 4294967296) : FB w u 65 u (w.alloc (.cells Tryz.zeroCells156 156)) :=
  ⟨(Below.refl _ w).alloc (Nat.le_refl _) _, by omega, by omega, by simpa using hu, ⟨_, [], hpNew w _, by rfl, rfl, by rfl, by simp⟩⟩
theorem drop_set {C : Array Value} {i : Nat} {x : Value} (hi : i < C.size) : (C.setIfInBounds i x).toList.drop i = x :: C.toList.drop (i + 1) := by
  rw [Array.toList_setIfInBounds, List.drop_eq_getElem_cons (by simpa using hi)]
  congr 1
  · simp
  · rw [List.drop_set_of_lt (by omega)]
theorem FB.set {w W : World} {u i v d : Nat} (h : FB w u i v W) (hp : 59 ≤ i ∨ True) (h1 : 1 ≤ i) : ∃ (C : Array Value) (D : List UInt8), (W.setCell ⟨w.heap.size, i - 1, none⟩ (.int .u8 ((hexC d).toNat : Int))).heap[w.heap.size]? = some (.cells C 156 (0, 0)) ∧ C.size = 65 ∧ D.length + i = 65 ∧ C.toList.drop (i - 1) = bvs (hexC d :: D) ∧ hexD u = hexD v ++ D := by
  obtain ⟨C, D, h1, h2, h3, h4, h5⟩ := h.blk
  have hi := h.hi
  refine ⟨_, D, hpSet h1, by simpa using h2, h3, ?_, h5⟩
  rw [drop_set (by omega), show i - 1 + 1 = i from by omega, h4]; rfl
theorem FB.step {w W : World} {u i v : Nat} (h : FB w u i v W) (hv : 16 ≤ v) : 59 ≤ i ∧ FB w u (i - 1) (v / 16) (W.setCell ⟨w.heap.size, i - 1, none⟩ (.int .u8 ((hexC (v % 16)).toNat : Int))) := by
  have hlt := h.lt; have hlo := h.lo; have hhi := h.hi
  have h59 : 59 ≤ i := by
    rcases Nat.lt_or_ge i 59 with q | q
    · rw [show i - 57 = 1 from by omega] at hlt; omega
    · exact q
  refine ⟨h59, h.bel.setCell (Nat.le_refl _) _, by omega, by omega, ?_, ?_⟩
  · rw [show i - 57 = (i - 1 - 57) + 1 from by omega, Nat.pow_succ] at hlt
    exact Nat.div_lt_of_lt_mul (by rw [Nat.mul_comm]; exact hlt)
  · obtain ⟨C, D, g1, g2, g3, g4, g5⟩ := h.set (d := v % 16) (.inr trivial) (by omega)
    exact ⟨C, hexC (v % 16) :: D, g1, g2, by simp only [List.length_cons]; omega, g4, by rw [g5, hexD_ge (by omega)]; simp⟩
/-- The text that is read out of the row. -/
theorem FB.out {w W : World} {u i v : Nat} (h : FB w u i v W) (hv : v < 16) : RB (W.setCell ⟨w.heap.size, i - 1, none⟩ (.int .u8 ((hexC v).toNat : Int))) (some ⟨w.heap.size, i - 1, none⟩) (65 - (i - 1)) (hexD u) := by
  have hlo := h.lo; have hhi := h.hi
  obtain ⟨C, D, g1, g2, g3, g4, g5⟩ := h.set (d := v) (.inr trivial) (by omega)
  rw [hexD_lt hv] at g5
  refine ⟨by rw [g5]; simp only [List.length_append, List.length_singleton]; omega, fun _ => ⟨_, rfl, blkX g1, ?_⟩⟩
  intro k x hx
  rw [g5, show [hexC v] ++ D = hexC v :: D from rfl, ← g4, List.getElem?_drop] at hx
  rw [Addr.add_lit, blkC g1]
  simpa using hx
attribute [-go_sem] run_index_string
set_option maxHeartbeats 8000000 in
theorem fmt16_any (u : Nat) (hu : u < 4294967296) (w : World) (hL : Ldr w) : Calls Tryz.prog 132 #[.slice none 0 0, .int .u64 u, .int .i64 16, .bool false, .bool false] w fun e w' => e = .returned (.tuple #[.slice none 0 0, .string ⟨(hexD u).toArray⟩]) ∧ Below w.heap.size w w' := by
  have b65 := Lib.hid ((Below.refl _ w).alloc (Nat.le_refl _) (.cells Tryz.zeroCells156 156))
  have hL1 := hL.keep b65.out
  go_enter Tryz.func132, Tryz.ntmps132
  go_wp2_with (fail)
  refine (pow2_16 _).mono ?_
  rintro e w1 ⟨rfl, rfl⟩
  go_wp2_with (fail)
  refine (tz_16 _ hL1).mono ?_
  rintro e w1 ⟨rfl, rfl⟩
  go_wp2_with (fail)
  go_loopw [1, 13] (fun uu ii wr => ∃ v i : Nat, uu = .int .u64 v ∧ ii = .int .i64 i ∧ FB w u i v wr) (fun uu _ _ => (intOf uu).toNat)
  case atStart => exact ⟨u, 65, rfl, rfl, FB.start w u hu⟩
  case round =>
    revert wr
    intro W1 hrel
    obtain ⟨v, i, rfl, rfl, h1⟩ := hrel
    obtain ⟨k, rfl⟩ : ∃ k, i = k + 1 := ⟨i - 1, by have := h1.lo; omega⟩
    obtain ⟨C, D, gb, gs, -, -, -⟩ := h1.blk
    have hlt := h1.lt; have hlo := h1.lo; have hhi := h1.hi
    have fz := blkF gb; have lb := blkX gb
    have cz : W1.cell? ⟨w.heap.size, k, none⟩ = some (C[k]'(by omega)) := (blkC gb k).trans (Array.getElem?_eq_getElem _)
    have hv64 : v < 18446744073709551616 := by
      have : 16 ^ (k + 1 - 57) ≤ 16 ^ 8 := Nat.pow_le_pow_right (by omega) (by omega)
      omega
    have k65 : (k : Int) < 65 := by omega
    have hw := u64_and_nat v 15 hv64 (by omega)
    rw [nat_mask4] at hw
    have e1 : bits .and .u64 (v : Int) 15 = ((v % 16 : Nat) : Int) := hw
    clear hw hlt
    by_cases hv : 16 ≤ v
    · obtain ⟨h59, h2⟩ := h1.step hv
      have ix := idx_dig (v % 16) (by omega)
      have hv2 : (16 : Int) ≤ (v : Int) := by omega
      have hdv := Lib.hid (show v / 16 < v from by omega)
      rw [Nat.add_sub_cancel] at h2
      generalize v % 16 = d at *
      replace h1 := Lib.hid h1; replace h2 := Lib.hid h2; replace gb := Lib.hid gb
      go_wp2_with (fail)
      exact ⟨⟨v / 16, k, by go_num, rfl, h2.out⟩, by have := hdv.out; simp [intOf]; omega⟩
    · have ho := h1.out (by omega)
      have ix := idx_dig v (by omega)
      have hv2 : ¬ (16 : Int) ≤ (v : Int) := by omega
      have hb := h1.bel.setCell (p := ⟨w.heap.size, k + 1 - 1, none⟩) (Nat.le_refl _) (.int .u8 ((hexC v).toNat : Int))
      rw [Nat.add_sub_cancel] at ho hb
      have hcv := ho.str (65 - k)
      have k0 : (0 : Int) ≤ k := by omega
      have hA : Tryz.prog.arrayLen 156 = 65 := by kernel_rfl
      have k66 : (k : Int) ≤ 65 := by omega
      have k67 : (k : Int) ≤ (Tryz.prog.arrayLen 156 : Int) := by rw [hA]; exact k66
      have k68 : ¬ 65 = k := by omega
      replace h1 := Lib.hid h1; replace ho := Lib.hid ho; replace gb := Lib.hid gb; replace hb := Lib.hid hb
      go_wp2_with (fail)
      go_ret2
      exact ⟨rfl, hb.out⟩
set_option maxHeartbeats 2000000 in
theorem fmtu_any (u : Nat) (hu : u < 4294967296) (w : World) (hL : Ldr w) : Calls Tryz.prog 136 #[.int .u64 u, .int .i64 16] w fun e w' => e = .returned (.string ⟨(hexD u).toArray⟩) ∧ Below w.heap.size w w' := by
  have h := fmt16_any u hu w hL
  generalize hexD u = hx at *
  go_enter Tryz.func136, Tryz.ntmps136
  go_wp2_with (fail)
  refine h.mono ?_
  rintro e w1 ⟨rfl, b1⟩
  replace b1 := Lib.hid b1
  go_wp2_with (fail)
  go_ret
  exact ⟨rfl, b1.out⟩
set_option maxHeartbeats 2000000 in
theorem formatUint_any (u : Nat) (hu : u < 4294967296) (w : World) (hL : Ldr w) : Calls Tryz.prog 126 #[.int .u64 u, .int .i64 16] w fun e w' => e = .returned (.string ⟨(hexD u).toArray⟩) ∧ Below w.heap.size w w' := by
  have h := fmtu_any u hu w hL
  generalize hexD u = hx at *
  go_enter Tryz.func126, Tryz.ntmps126
  go_wp2_with (fail)
  refine h.mono ?_
  rintro e w1 ⟨rfl, b1⟩
  replace b1 := Lib.hid b1
  go_wp2_with (fail)
  go_ret
  exact ⟨rfl, b1.out⟩
end Go.Proofs.YtlinjanflenljaaGreatDoor
