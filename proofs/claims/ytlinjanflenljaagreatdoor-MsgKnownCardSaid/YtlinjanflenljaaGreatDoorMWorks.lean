/- The examples of the chapter hold. -/
import Derived.Test.YtlinjanflenljaaGreatDoorTextM
import Derived.Test.YtlinjanflenljaaGreatDoorEqM
import Derived.Test.YtlinjanflenljaaGreatDoorDec
namespace Go.Proofs.YtlinjanflenljaaGreatDoor
open Go.RowKit
set_option linter.unusedSimpArgs false
set_option linter.unusedVariables false
set_option linter.unusedSectionVars false
set_option maxRecDepth 10000
def m0 : Mg := ⟨1, 0, 2, 3, 0, 5, 0, [], []⟩
theorem m0_bytes : bytesM m0 = [1, 0, 2, 3, 0, 5] := by
  simp [bytesM, bHead, bB, bS, bN, bV, bL, uB, uS, uN, uV, uL, m0, enc_lt]
theorem m0_enc : encE m0 = 0 := by
  have h1 : argOK m0 = true := by decide
  have h2 : longM m0 = false := by decide
  unfold encE
  rw [h1, h2, m0_bytes]; rfl
theorem m0_text : textM m0 = [48, 62, 50, 32, 112, 114, 101, 112, 97, 114, 101, 32, 51, 46, 48, 32, 53] := by
  have e : wordM 1 = [112, 114, 101, 112, 97, 114, 101] := rfl
  have d0 : Lib.decDigits 0 = [48] := Lib.decDigits_one (by omega)
  have d2 : Lib.decDigits 2 = [50] := Lib.decDigits_one (by omega)
  have d3 : Lib.decDigits 3 = [51] := Lib.decDigits_one (by omega)
  have d5 : Lib.decDigits 5 = [53] := Lib.decDigits_one (by omega)
  simp [textM, tHead, tB, tS, tN, tV, tL, uB, uS, uN, uV, uL, m0, txt, e, d0, d2, d3, d5]
theorem m0_dec : decM [1, 0, 2, 3, 0, 5] = (m0, 0) := by rw [← m0_bytes]; exact dec_back m0 m0_enc
theorem m0_cut : decM [1, 0, 2, 3, 0] = (zeroMg, 10) := by
  have := dec_cut m0_enc 5 (by rw [m0_bytes]; decide)
  rw [m0_bytes] at this
  exact this
theorem m0_encB : encB m0 = [1, 0, 2, 3, 0, 5] := by unfold encB; rw [if_pos m0_enc, m0_bytes]
theorem m0_txtM : txtM m0 = [48, 62, 50, 32, 112, 114, 101, 112, 97, 114, 101, 32, 51, 46, 48, 32, 53] := by unfold txtM; rw [if_pos m0_enc, m0_text]
theorem row5 (W : World) : RB (W.alloc (.cells #[.int .u8 1, .int .u8 0, .int .u8 2, .int .u8 3, .int .u8 0] 5)) (some ⟨W.heap.size, 0, none⟩) 5 [1, 0, 2, 3, 0] := by
  refine ⟨rfl, fun _ => ⟨_, rfl, by simp, fun j u hu => ?_⟩⟩
  have hb := hpNew W (.cells #[.int .u8 1, .int .u8 0, .int .u8 2, .int .u8 3, .int .u8 0] 5)
  have hj : j = 0 ∨ j = 1 ∨ j = 2 ∨ j = 3 ∨ j = 4 := by have := (List.getElem?_eq_some_iff.1 hu).1; simp [bvs] at this; omega
  rw [Addr.add_lit, blkC hb]
  rcases hj with rfl | rfl | rfl | rfl | rfl <;> (simp [bvs, bv] at hu; subst hu; rfl)
set_option maxHeartbeats 16000000 in
theorem works_any (w : World) (hL : Ldr w) : Calls Tryz.prog 12 #[] w fun e w' => e = .returned (.bool true) ∧ Below w.heap.size w w' := by
  obtain ⟨w1, hw1⟩ : ∃ w1, w1 = w.alloc (.cells #[.int .i64 1, .int .i64 0, .int .i64 2, .int .i64 3, .int .i64 0, .int .i64 5, .int .i64 0, .string ⟨#[]⟩, .slice none 0 0] 28) := ⟨_, rfl⟩
  have k1 : Below w.heap.size w w1 := by rw [hw1]; exact (Below.refl _ w).alloc (Nat.le_refl _) _
  have g1 : w1.heap[w.heap.size]? = some (.cells #[.int .i64 1, .int .i64 0, .int .i64 2, .int .i64 3, .int .i64 0, .int .i64 5, .int .i64 0, .string ⟨#[]⟩, .slice none 0 0] 28 (0, 0)) := by rw [hw1]; exact hpNew w _
  have ht : Calls Tryz.prog 20 #[.agg #[.int .i64 1, .int .i64 0, .int .i64 2, .int .i64 3, .int .i64 0, .int .i64 5, .int .i64 0, .string ⟨#[]⟩, .slice none 0 0]] w1 fun e w' => e = .returned (.tuple #[.string (⟨(48 :: 62 :: 50 :: 32 :: 112 :: 114 :: 101 :: 112 :: 97 :: 114 :: 101 :: 32 :: 51 :: 46 :: 48 :: 32 :: 53 :: []).toArray⟩), .int .i64 0]) ∧ Below w1.heap.size w1 w' := by
    have h := textm_any m0 none 0 w1 (hL.keep k1) (SL.nil _ _) (by decide)
    rw [m0_txtM, m0_enc] at h
    exact h
  have he : ∀ W, Ldr W → Calls Tryz.prog 17 #[.agg #[.int .i64 1, .int .i64 0, .int .i64 2, .int .i64 3, .int .i64 0, .int .i64 5, .int .i64 0, .string ⟨#[]⟩, .slice none 0 0]] W fun e w' => ∃ A c, e = .returned (.tuple #[.slice A 6 c, .int .i64 0]) ∧ IsBytes W A c [1, 0, 2, 3, 0, 5] w' := by
    intro W hW
    have h := enc_any m0 none 0 W hW (SL.nil _ _) (by decide)
    unfold EncTo at h
    rw [m0_encB, m0_enc] at h
    exact h
  have hd : ∀ A c W, Ldr W → RB W A 6 [1, 0, 2, 3, 0, 5] → Calls Tryz.prog 13 #[.slice A 6 c] W fun e w' => ∃ A' c', e = .returned (.tuple #[.agg #[.int .i64 1, .int .i64 0, .int .i64 2, .int .i64 3, .int .i64 0, .int .i64 5, .int .i64 0, .string ⟨#[]⟩, .slice A' 0 c'], .int .i64 0]) ∧ Below W.heap.size W w' := by
    intro A c W hW hR
    refine (dec_any A 6 c _ W hW hR (by omega)).mono ?_
    unfold DecTo
    rw [m0_dec]
    rintro e w' ⟨A', c', rfl, h2, h3⟩
    exact ⟨A', c', rfl, h3⟩
  have hd5 : ∀ A c W, Ldr W → RB W A 5 [1, 0, 2, 3, 0] → Calls Tryz.prog 13 #[.slice A 5 c] W fun e w' => ∃ A' c', e = .returned (.tuple #[.agg #[.int .i64 0, .int .i64 0, .int .i64 0, .int .i64 0, .int .i64 0, .int .i64 0, .int .i64 0, .string ⟨#[]⟩, .slice A' 0 c'], .int .i64 10]) ∧ Below W.heap.size W w' := by
    intro A c W hW hR
    refine (dec_any A 5 c _ W hW hR (by omega)).mono ?_
    unfold DecTo
    rw [m0_cut]
    rintro e w' ⟨A', c', rfl, h2, h3⟩
    exact ⟨A', c', rfl, h3⟩
  have hq : ∀ A c W, Calls Tryz.prog 19 #[.agg #[.int .i64 1, .int .i64 0, .int .i64 2, .int .i64 3, .int .i64 0, .int .i64 5, .int .i64 0, .string ⟨#[]⟩, .slice A 0 c], .agg #[.int .i64 1, .int .i64 0, .int .i64 2, .int .i64 3, .int .i64 0, .int .i64 5, .int .i64 0, .string ⟨#[]⟩, .slice none 0 0]] W fun e w' => e = .returned (.bool true) ∧ Below W.heap.size W w' := by
    intro A c W
    have h := equal_m m0 m0 A none c 0 W (SL.nil _ _) (SL.nil _ _) (by decide) (by decide)
    rw [show decide (m0 = m0) = true from decide_eq_true rfl] at h
    exact h
  replace g1 := Lib.hid g1; replace k1 := Lib.hid k1; replace hL := Lib.hid hL
  go_enter Tryz.func12, Tryz.ntmps12
  go_wp2_with (fail)
  rw [← hw1]
  clear hw1
  refine ht.mono ?_
  rintro e w2 ⟨rfl, b2⟩
  have g2 := (b2.block _ (blkX g1.out)).trans g1.out
  have c0 : w2.cell? ⟨w.heap.size, 0, none⟩ = some (.int .i64 1) := blkC g2 0
  have c1 : w2.cell? ⟨w.heap.size, 1, none⟩ = some (.int .i64 0) := blkC g2 1
  have c2 : w2.cell? ⟨w.heap.size, 2, none⟩ = some (.int .i64 2) := blkC g2 2
  have c3' : w2.cell? ⟨w.heap.size, 3, none⟩ = some (.int .i64 3) := blkC g2 3
  have c4 : w2.cell? ⟨w.heap.size, 4, none⟩ = some (.int .i64 0) := blkC g2 4
  have c5 : w2.cell? ⟨w.heap.size, 5, none⟩ = some (.int .i64 5) := blkC g2 5
  have c6 : w2.cell? ⟨w.heap.size, 6, none⟩ = some (.int .i64 0) := blkC g2 6
  have c7 : w2.cell? ⟨w.heap.size, 7, none⟩ = some (.string ⟨#[]⟩) := blkC g2 7
  have c8 : w2.cell? ⟨w.heap.size, 8, none⟩ = some (.slice none 0 0) := blkC g2 8
  have k2 := k1.out.trans (b2.mono k1.out.size)
  have he2 := he w2 (hL.out.keep k2)
  replace g2 := Lib.hid g2; replace k2 := Lib.hid k2
  clear ht b2 he
  go_wp2_with (fail)
  refine he2.mono ?_
  rintro e w3 ⟨A3, c3, rfl, o3, b3⟩
  have g3 := (b3.block _ (blkX g2.out)).trans g2.out
  have k3 := k2.out.trans (b3.mono k2.out.size)
  have hr3 : RB w3 A3 6 [1, 0, 2, 3, 0, 5] := RB.of_own o3
  have hd3 := hd A3 c3 w3 (hL.out.keep k3) hr3
  replace g3 := Lib.hid g3; replace k3 := Lib.hid k3; replace hr3 := Lib.hid hr3
  clear he2 o3 b3 c0 c1 c2 c3' c4 c5 c6 c7 c8
  go_wp2_with (fail)
  refine hd3.mono ?_
  rintro e w4 ⟨A4, c4, rfl, b4⟩
  obtain ⟨w5, hw5⟩ : ∃ w5, w5 = w4.alloc (.cells #[.int .i64 1, .int .i64 0, .int .i64 2, .int .i64 3, .int .i64 0, .int .i64 5, .int .i64 0, .string ⟨#[]⟩, .slice A4 0 c4] 28) := ⟨_, rfl⟩
  have b5 : Below w3.heap.size w3 w5 := by rw [hw5]; exact b4.alloc b4.size _
  have x5 : w5.heap[w4.heap.size]? = some (.cells #[.int .i64 1, .int .i64 0, .int .i64 2, .int .i64 3, .int .i64 0, .int .i64 5, .int .i64 0, .string ⟨#[]⟩, .slice A4 0 c4] 28 (0, 0)) := by rw [hw5]; exact hpNew w4 _
  have b6 := b5.alloc b5.size (.cells #[.int .u8 1, .int .u8 0, .int .u8 2, .int .u8 3, .int .u8 0] 5)
  have k6 := k3.out.trans (b6.mono k3.out.size)
  have hr6 := row5 w5
  have hz5 : w5.heap.size = w4.heap.size + 1 := by rw [hw5]; simp
  have hd6 := hd5 _ 5 _ (hL.out.keep k6) hr6
  rw [show (some ⟨w5.heap.size, 0, none⟩ : Option Addr) = some ⟨w4.heap.size + 1, 0, none⟩ from by rw [hz5]] at hd6
  have x6 := ((Below.refl _ w5).alloc (Nat.le_refl _) (.cells #[.int .u8 1, .int .u8 0, .int .u8 2, .int .u8 3, .int .u8 0] 5)).block _ (blkX x5) |>.trans x5
  have g6 := (b6.block _ (blkX g3.out)).trans g3.out
  have r6 := hr3.out.below b6
  replace hz5 := Lib.hid hz5; replace b6 := Lib.hid b6; replace k6 := Lib.hid k6; replace hr6 := Lib.hid hr6; replace x6 := Lib.hid x6; replace g6 := Lib.hid g6; replace r6 := Lib.hid r6; replace hw5 := Lib.hid hw5; replace x5 := Lib.hid x5; replace b5 := Lib.hid b5
  clear b4 hd3
  go_wp2_with (fail)
  rw [← hw5.out]
  refine hd6.mono ?_
  rintro e w7 ⟨A7, c7, rfl, b7⟩
  have b8 := b7.alloc b7.size (.cells #[.int .i64 0, .int .i64 0, .int .i64 0, .int .i64 0, .int .i64 0, .int .i64 0, .int .i64 0, .string ⟨#[]⟩, .slice A7 0 c7] 28)
  have x8 := (b8.block _ (blkX x6.out)).trans x6.out
  have g8 := (b8.block _ (blkX g6.out)).trans g6.out
  have r8 := (r6.out.below b8).str c3
  have k8 := Lib.hid (k6.out.trans (b8.mono k6.out.size))
  have p0 : (w7.alloc (.cells #[.int .i64 0, .int .i64 0, .int .i64 0, .int .i64 0, .int .i64 0, .int .i64 0, .int .i64 0, .string ⟨#[]⟩, .slice A7 0 c7] 28)).cell? ⟨w.heap.size, 0, none⟩ = some (.int .i64 1) := blkC g8 0
  have p1 : (w7.alloc (.cells #[.int .i64 0, .int .i64 0, .int .i64 0, .int .i64 0, .int .i64 0, .int .i64 0, .int .i64 0, .string ⟨#[]⟩, .slice A7 0 c7] 28)).cell? ⟨w.heap.size, 1, none⟩ = some (.int .i64 0) := blkC g8 1
  have p2 : (w7.alloc (.cells #[.int .i64 0, .int .i64 0, .int .i64 0, .int .i64 0, .int .i64 0, .int .i64 0, .int .i64 0, .string ⟨#[]⟩, .slice A7 0 c7] 28)).cell? ⟨w.heap.size, 2, none⟩ = some (.int .i64 2) := blkC g8 2
  have p3 : (w7.alloc (.cells #[.int .i64 0, .int .i64 0, .int .i64 0, .int .i64 0, .int .i64 0, .int .i64 0, .int .i64 0, .string ⟨#[]⟩, .slice A7 0 c7] 28)).cell? ⟨w.heap.size, 3, none⟩ = some (.int .i64 3) := blkC g8 3
  have p4 : (w7.alloc (.cells #[.int .i64 0, .int .i64 0, .int .i64 0, .int .i64 0, .int .i64 0, .int .i64 0, .int .i64 0, .string ⟨#[]⟩, .slice A7 0 c7] 28)).cell? ⟨w.heap.size, 4, none⟩ = some (.int .i64 0) := blkC g8 4
  have p5 : (w7.alloc (.cells #[.int .i64 0, .int .i64 0, .int .i64 0, .int .i64 0, .int .i64 0, .int .i64 0, .int .i64 0, .string ⟨#[]⟩, .slice A7 0 c7] 28)).cell? ⟨w.heap.size, 5, none⟩ = some (.int .i64 5) := blkC g8 5
  have p6 : (w7.alloc (.cells #[.int .i64 0, .int .i64 0, .int .i64 0, .int .i64 0, .int .i64 0, .int .i64 0, .int .i64 0, .string ⟨#[]⟩, .slice A7 0 c7] 28)).cell? ⟨w.heap.size, 6, none⟩ = some (.int .i64 0) := blkC g8 6
  have p7 : (w7.alloc (.cells #[.int .i64 0, .int .i64 0, .int .i64 0, .int .i64 0, .int .i64 0, .int .i64 0, .int .i64 0, .string ⟨#[]⟩, .slice A7 0 c7] 28)).cell? ⟨w.heap.size, 7, none⟩ = some (.string ⟨#[]⟩) := blkC g8 7
  have p8 : (w7.alloc (.cells #[.int .i64 0, .int .i64 0, .int .i64 0, .int .i64 0, .int .i64 0, .int .i64 0, .int .i64 0, .string ⟨#[]⟩, .slice A7 0 c7] 28)).cell? ⟨w.heap.size, 8, none⟩ = some (.slice none 0 0) := blkC g8 8
  have q0 : (w7.alloc (.cells #[.int .i64 0, .int .i64 0, .int .i64 0, .int .i64 0, .int .i64 0, .int .i64 0, .int .i64 0, .string ⟨#[]⟩, .slice A7 0 c7] 28)).cell? ⟨w4.heap.size, 0, none⟩ = some (.int .i64 1) := blkC x8 0
  have q1 : (w7.alloc (.cells #[.int .i64 0, .int .i64 0, .int .i64 0, .int .i64 0, .int .i64 0, .int .i64 0, .int .i64 0, .string ⟨#[]⟩, .slice A7 0 c7] 28)).cell? ⟨w4.heap.size, 1, none⟩ = some (.int .i64 0) := blkC x8 1
  have q2 : (w7.alloc (.cells #[.int .i64 0, .int .i64 0, .int .i64 0, .int .i64 0, .int .i64 0, .int .i64 0, .int .i64 0, .string ⟨#[]⟩, .slice A7 0 c7] 28)).cell? ⟨w4.heap.size, 2, none⟩ = some (.int .i64 2) := blkC x8 2
  have q3 : (w7.alloc (.cells #[.int .i64 0, .int .i64 0, .int .i64 0, .int .i64 0, .int .i64 0, .int .i64 0, .int .i64 0, .string ⟨#[]⟩, .slice A7 0 c7] 28)).cell? ⟨w4.heap.size, 3, none⟩ = some (.int .i64 3) := blkC x8 3
  have q4 : (w7.alloc (.cells #[.int .i64 0, .int .i64 0, .int .i64 0, .int .i64 0, .int .i64 0, .int .i64 0, .int .i64 0, .string ⟨#[]⟩, .slice A7 0 c7] 28)).cell? ⟨w4.heap.size, 4, none⟩ = some (.int .i64 0) := blkC x8 4
  have q5 : (w7.alloc (.cells #[.int .i64 0, .int .i64 0, .int .i64 0, .int .i64 0, .int .i64 0, .int .i64 0, .int .i64 0, .string ⟨#[]⟩, .slice A7 0 c7] 28)).cell? ⟨w4.heap.size, 5, none⟩ = some (.int .i64 5) := blkC x8 5
  have q6 : (w7.alloc (.cells #[.int .i64 0, .int .i64 0, .int .i64 0, .int .i64 0, .int .i64 0, .int .i64 0, .int .i64 0, .string ⟨#[]⟩, .slice A7 0 c7] 28)).cell? ⟨w4.heap.size, 6, none⟩ = some (.int .i64 0) := blkC x8 6
  have q7 : (w7.alloc (.cells #[.int .i64 0, .int .i64 0, .int .i64 0, .int .i64 0, .int .i64 0, .int .i64 0, .int .i64 0, .string ⟨#[]⟩, .slice A7 0 c7] 28)).cell? ⟨w4.heap.size, 7, none⟩ = some (.string ⟨#[]⟩) := blkC x8 7
  have q8 : (w7.alloc (.cells #[.int .i64 0, .int .i64 0, .int .i64 0, .int .i64 0, .int .i64 0, .int .i64 0, .int .i64 0, .string ⟨#[]⟩, .slice A7 0 c7] 28)).cell? ⟨w4.heap.size, 8, none⟩ = some (.slice A4 0 c4) := blkC x8 8
  have lg := blkX g8; have lx := blkX x8
  replace x8 := Lib.hid x8; replace g8 := Lib.hid g8
  clear b7 b8 hd6 hd hd5
  go_wp2_with (fail)
  refine (hq A4 c4 _).mono ?_
  rintro e w9 ⟨rfl, b9⟩
  have k9 := Lib.hid (k8.out.trans (b9.mono k8.out.size))
  clear b9
  go_wp2_with (fail)
  go_ret
  exact ⟨rfl, k9.out⟩
end Go.Proofs.YtlinjanflenljaaGreatDoor
