/- Which messages are allowed: the plain steps. -/
import Derived.Test.YtlinjanflenljaaGreatDoorRUse
import Derived.Test.YtlinjanflenljaaGreatDoorOrdd
import Derived.Test.YtlinjanflenljaaGreatDoorFld
import Derived.Deep.RegionHeld3
namespace Go.Proofs.YtlinjanflenljaaGreatDoor
open Go.RowKit
set_option linter.unusedSimpArgs false
set_option linter.unusedVariables false
set_option linter.unusedSectionVars false
set_option maxRecDepth 10000
theorem ano1 {m : Mg} (h : fB m = false) : argOK m = false := by unfold argOK; rw [h]; cases headOK m <;> rfl
theorem ano2 {m : Mg} (h : fS m = false) : argOK m = false := by unfold argOK; rw [h]; cases headOK m <;> cases fB m <;> rfl
theorem ano3 {m : Mg} (h : fN m = false) : argOK m = false := by unfold argOK; rw [h]; cases headOK m <;> cases fB m <;> cases fS m <;> rfl
theorem ano4 {m : Mg} (h : fV m = false) : argOK m = false := by unfold argOK; rw [h]; cases headOK m <;> cases fB m <;> cases fS m <;> cases fN m <;> rfl
theorem ano5 {m : Mg} (h : fL m = false) : argOK m = false := by unfold argOK; rw [h, Bool.and_false]
theorem argOK_mk {m : Mg} (h0 : headOK m = true) (h1 : fB m = true) (h2 : fS m = true) (h3 : fN m = true) (h4 : fV m = true) (h5 : fL m = true) : argOK m = true := by unfold argOK; rw [h0, h1, h2, h3, h4, h5]; rfl
end Go.Proofs.YtlinjanflenljaaGreatDoor

namespace Go.Proofs.YtlinjanflenljaaGreatDoor
open Go.RowKit
set_option linter.unusedSimpArgs false
set_option linter.unusedVariables false
set_option linter.unusedSectionVars false
set_option maxRecDepth 10000
set_option maxHeartbeats 32000000 in
theorem rvalid_1 (fr tt ro no sl nu : Int) (v : List UInt8) (l : List Ent) (A : Option Addr) (c : Nat) (w : World) (hE : ES w A l.length l) (hn : l.length ≤ 70368744177664) (hd : 0 ≤ fr ∧ fr ≤ 55 ∧ 0 ≤ tt ∧ tt ≤ 55 ∧ fr ≠ tt) :
    Calls Tryz.prog 51 #[.agg #[.int .i64 1, .int .i64 fr, .int .i64 tt, .int .i64 ro, .int .i64 no, .int .i64 sl, .int .i64 nu, .string (sOf v), .slice A l.length c]] w fun e w' => e = .returned (.bool (argOK ⟨1, fr, tt, ro, no, sl, nu, v, l⟩)) ∧ Below w.heap.size w w' := by
  obtain ⟨g0, g1, g2, g3, g4⟩ := hd
  obtain ⟨U, hU⟩ : ∃ U, U = w.alloc (.cells #[.int .i64 1, .int .i64 fr, .int .i64 tt, .int .i64 ro, .int .i64 no, .int .i64 sl, .int .i64 nu, .string (sOf v), .slice A l.length c] 28) := ⟨_, rfl⟩
  have kb : Below w.heap.size w U := by rw [hU]; exact (Below.refl _ w).alloc (Nat.le_refl _) _
  have hB : U.heap[w.heap.size]? = some (.cells #[.int .i64 1, .int .i64 fr, .int .i64 tt, .int .i64 ro, .int .i64 no, .int .i64 sl, .int .i64 nu, .string (sOf v), .slice A l.length c] 28 (0, 0)) := by rw [hU]; exact hpNew w _
  have hE1 := Lib.hid (SL.keep hE kb)
  have i1 := fun W => rin_any 1 1 11 W
  rw [show inB 1 1 11 = true from by decide] at i1
  have i2 := fun W => rin_any fr 0 55 W
  rw [show inB fr 0 55 = true from decide_eq_true ⟨g0, g1⟩] at i2
  have i3 := fun W => rin_any tt 0 55 W
  rw [show inB tt 0 55 = true from decide_eq_true ⟨g2, g3⟩] at i3
  have us := fun W => uses_any 1 (by decide) W
  rw [show uB 1 = true from by decide, show uS 1 = true from by decide, show uN 1 = false from by decide, show uV 1 = false from by decide, show uL 1 = false from by decide] at us
  have hhd : headOK (⟨1, fr, tt, ro, no, sl, nu, v, l⟩ : Mg) = true := by unfold headOK; dsimp only; exact decide_eq_true ⟨by omega, by omega, g0, g1, g2, g3, g4⟩
  have g5 : (fr == tt) = false := by simp [g4]
  replace kb := Lib.hid kb; replace hB := Lib.hid hB; replace hE := Lib.hid hE; replace hhd := Lib.hid hhd; clear g0 g1 g2 g3 g4
  have hUs := Lib.hid (show U.heap.size = w.heap.size + 1 from by rw [hU]; simp)
  have u0 : U.cell? ⟨w.heap.size, 0, none⟩ = some (.int .i64 1) := blkC hB.out 0
  have u1 : U.cell? ⟨w.heap.size, 1, none⟩ = some (.int .i64 fr) := blkC hB.out 1
  have u2 : U.cell? ⟨w.heap.size, 2, none⟩ = some (.int .i64 tt) := blkC hB.out 2
  have u3 : U.cell? ⟨w.heap.size, 3, none⟩ = some (.int .i64 ro) := blkC hB.out 3
  have u4 : U.cell? ⟨w.heap.size, 4, none⟩ = some (.int .i64 no) := blkC hB.out 4
  have u5 : U.cell? ⟨w.heap.size, 5, none⟩ = some (.int .i64 sl) := blkC hB.out 5
  have u6 : U.cell? ⟨w.heap.size, 6, none⟩ = some (.int .i64 nu) := blkC hB.out 6
  have u7 : U.cell? ⟨w.heap.size, 7, none⟩ = some (.string (sOf v)) := blkC hB.out 7
  have u8 : U.cell? ⟨w.heap.size, 8, none⟩ = some (.slice A l.length c) := blkC hB.out 8
  have lU := blkX hB.out
  go_enter Tryz.func51, Tryz.ntmps51
  go_wp2_with (fail)
  rw [← hU]
  clear hU
  refine (i1 _).mono ?_
  rintro e w1 ⟨rfl, rfl⟩
  go_wp2_with (fail)
  refine (i2 _).mono ?_
  rintro e w1 ⟨rfl, rfl⟩
  go_wp2_with (fail)
  refine (i3 _).mono ?_
  rintro e w1 ⟨rfl, rfl⟩
  go_wp2_with (fail)
  refine (us _).mono ?_
  rintro e w1 ⟨rfl, rfl⟩
  go_wp2_with (fail)
  clear i1 i2 i3 us g5
  refine (rgood_any ro no _).mono ?_
  rintro e W1 ⟨rfl, b1⟩
  have kb1 := Lib.hid (kb.out.trans (b1.mono kb.out.size))
  have hB1 := Lib.hid ((b1.block _ (blkX hB.out)).trans hB.out)
  have hE2 := Lib.hid (SL.keep hE1.out b1)
  clear u0 u1 u2 u3 u4 u5 u6 u7 u8 lU
  clear b1 kb hB hE1
  have kb := kb1; have hB := hB1; have hE1 := hE2; clear kb1 hB1 hE2
  have u0 : W1.cell? ⟨w.heap.size, 0, none⟩ = some (.int .i64 1) := blkC hB.out 0
  have u1 : W1.cell? ⟨w.heap.size, 1, none⟩ = some (.int .i64 fr) := blkC hB.out 1
  have u2 : W1.cell? ⟨w.heap.size, 2, none⟩ = some (.int .i64 tt) := blkC hB.out 2
  have u3 : W1.cell? ⟨w.heap.size, 3, none⟩ = some (.int .i64 ro) := blkC hB.out 3
  have u4 : W1.cell? ⟨w.heap.size, 4, none⟩ = some (.int .i64 no) := blkC hB.out 4
  have u5 : W1.cell? ⟨w.heap.size, 5, none⟩ = some (.int .i64 sl) := blkC hB.out 5
  have u6 : W1.cell? ⟨w.heap.size, 6, none⟩ = some (.int .i64 nu) := blkC hB.out 6
  have u7 : W1.cell? ⟨w.heap.size, 7, none⟩ = some (.string (sOf v)) := blkC hB.out 7
  have u8 : W1.cell? ⟨w.heap.size, 8, none⟩ = some (.slice A l.length c) := blkC hB.out 8
  have lU := blkX hB.out
  by_cases hg : goodB ro no = true
  rotate_left
  · have hg2 := eq_false_of_ne_true hg
    rw [hg2]
    have hfin := Lib.hid (show argOK (⟨1, fr, tt, ro, no, sl, nu, v, l⟩ : Mg) = false from ano1 (by show (if uB 1 = true then goodB ro no else decide (ro = 0 ∧ no = 0)) = false; rw [if_pos (by decide)]; exact hg2))
    go_wp2_with (fail)
    go_ret
    exact ⟨by rw [hfin.out]; rfl, kb.out⟩
  rw [hg]
  have p1 := Lib.hid (show fB (⟨1, fr, tt, ro, no, sl, nu, v, l⟩ : Mg) = true from by show (if uB 1 = true then goodB ro no else decide (ro = 0 ∧ no = 0)) = true; rw [if_pos (by decide)]; exact hg)
  replace hg := Lib.hid hg
  by_cases hn0 : nu = 0
  rotate_left
  · have hn1 : (nu == 0) = false := by simp [hn0]
    have hfin := Lib.hid (show argOK (⟨1, fr, tt, ro, no, sl, nu, v, l⟩ : Mg) = false from ano3 (by show (if uN 1 = true then decide (kLo 1 ≤ nu ∧ nu ≤ kHi 1) else decide (nu = 0)) = false; rw [if_neg (by decide)]; exact decide_eq_false hn0))
    go_wp2_with (fail)
    go_ret
    exact ⟨by rw [hfin.out]; rfl, kb.out⟩
  have p3 := Lib.hid (show fN (⟨1, fr, tt, ro, no, sl, nu, v, l⟩ : Mg) = true from by show (if uN 1 = true then decide (kLo 1 ≤ nu ∧ nu ≤ kHi 1) else decide (nu = 0)) = true; rw [if_neg (by decide)]; exact decide_eq_true hn0)
  have hn1 : (nu == 0) = true := by simp [hn0]
  replace hn0 := Lib.hid hn0
  by_cases hv0 : v = []
  rotate_left
  · have hv1 : (sOf v).toList.isEmpty = false := by rw [sOf_empty]; simp [hv0]
    have hfin := Lib.hid (show argOK (⟨1, fr, tt, ro, no, sl, nu, v, l⟩ : Mg) = false from ano4 (by show (if uV 1 = true then true else decide (v = [])) = false; rw [if_neg (by decide)]; exact decide_eq_false hv0))
    go_wp2_with (fail)
    go_ret
    exact ⟨by rw [hfin.out]; rfl, kb.out⟩
  have p4 := Lib.hid (show fV (⟨1, fr, tt, ro, no, sl, nu, v, l⟩ : Mg) = true from by show (if uV 1 = true then true else decide (v = [])) = true; rw [if_neg (by decide)]; exact decide_eq_true hv0)
  have hv1 : (sOf v).toList.isEmpty = true := by rw [sOf_empty]; simp [hv0]
  replace hv0 := Lib.hid hv0
  by_cases hl0 : l = []
  rotate_left
  · have hl1 : (0 : Int) < (l.length : Int) := by have := List.length_pos_iff.2 hl0; omega
    have hfin := Lib.hid (show argOK (⟨1, fr, tt, ro, no, sl, nu, v, l⟩ : Mg) = false from ano5 (by show (if uL 1 = true then okL (-1) l else decide (l = [])) = false; rw [if_neg (by decide)]; exact decide_eq_false hl0))
    go_wp2_with (fail)
    go_ret
    exact ⟨by rw [hfin.out]; rfl, kb.out⟩
  have p5 := Lib.hid (show fL (⟨1, fr, tt, ro, no, sl, nu, v, l⟩ : Mg) = true from by show (if uL 1 = true then okL (-1) l else decide (l = [])) = true; rw [if_neg (by decide)]; exact decide_eq_true hl0)
  have hl2 : l.length = 0 := by rw [hl0]; rfl
  have hl1 : ¬ (0 : Int) < (l.length : Int) := by omega
  replace hl0 := Lib.hid hl0
  go_wp2_with (fail)
  by_cases hs0 : 0 ≤ sl ∧ sl ≤ 4096
  rotate_left
  · refine (rin_any sl 0 4096 _).mono ?_
    rintro e w1 ⟨rfl, rfl⟩
    rw [show inB sl 0 4096 = false from decide_eq_false hs0]
    have hfin := Lib.hid (show argOK (⟨1, fr, tt, ro, no, sl, nu, v, l⟩ : Mg) = false from ano2 (by show (if uS 1 = true then decide (0 ≤ sl ∧ sl ≤ kSl 1) else decide (sl = 0)) = false; rw [if_pos (by decide), show kSl 1 = 4096 from by decide]; exact decide_eq_false hs0))
    go_wp2_with (fail)
    go_ret
    exact ⟨by rw [hfin.out]; rfl, kb.out⟩
  have p2 := Lib.hid (show fS (⟨1, fr, tt, ro, no, sl, nu, v, l⟩ : Mg) = true from by show (if uS 1 = true then decide (0 ≤ sl ∧ sl ≤ kSl 1) else decide (sl = 0)) = true; rw [if_pos (by decide), show kSl 1 = 4096 from by decide]; exact decide_eq_true hs0)
  refine (rin_any sl 0 4096 _).mono ?_
  rintro e w1 ⟨rfl, rfl⟩
  rw [show inB sl 0 4096 = true from decide_eq_true hs0]
  replace hs0 := Lib.hid hs0
  go_wp2_with (fail)
  have hfin := Lib.hid (argOK_mk hhd.out p1.out p2.out p3.out p4.out p5.out)
  go_loopw [11] (fun i wr => i = .int .i64 0 ∧ wr = W1) (fun _ _ => 0)
  case atStart => exact ⟨rfl, rfl⟩
  case round =>
    revert wr
    intro W2 hrel
    obtain ⟨rfl, rfl⟩ := hrel
    go_wp2_with (fail)
    go_ret
    exact ⟨by rw [hfin.out]; rfl, kb.out⟩

set_option maxHeartbeats 32000000 in
theorem rvalid_3 (fr tt ro no sl nu : Int) (v : List UInt8) (l : List Ent) (A : Option Addr) (c : Nat) (w : World) (hE : ES w A l.length l) (hn : l.length ≤ 70368744177664) (hd : 0 ≤ fr ∧ fr ≤ 55 ∧ 0 ≤ tt ∧ tt ≤ 55 ∧ fr ≠ tt) :
    Calls Tryz.prog 51 #[.agg #[.int .i64 3, .int .i64 fr, .int .i64 tt, .int .i64 ro, .int .i64 no, .int .i64 sl, .int .i64 nu, .string (sOf v), .slice A l.length c]] w fun e w' => e = .returned (.bool (argOK ⟨3, fr, tt, ro, no, sl, nu, v, l⟩)) ∧ Below w.heap.size w w' := by
  obtain ⟨g0, g1, g2, g3, g4⟩ := hd
  obtain ⟨U, hU⟩ : ∃ U, U = w.alloc (.cells #[.int .i64 3, .int .i64 fr, .int .i64 tt, .int .i64 ro, .int .i64 no, .int .i64 sl, .int .i64 nu, .string (sOf v), .slice A l.length c] 28) := ⟨_, rfl⟩
  have kb : Below w.heap.size w U := by rw [hU]; exact (Below.refl _ w).alloc (Nat.le_refl _) _
  have hB : U.heap[w.heap.size]? = some (.cells #[.int .i64 3, .int .i64 fr, .int .i64 tt, .int .i64 ro, .int .i64 no, .int .i64 sl, .int .i64 nu, .string (sOf v), .slice A l.length c] 28 (0, 0)) := by rw [hU]; exact hpNew w _
  have hE1 := Lib.hid (SL.keep hE kb)
  have i1 := fun W => rin_any 3 1 11 W
  rw [show inB 3 1 11 = true from by decide] at i1
  have i2 := fun W => rin_any fr 0 55 W
  rw [show inB fr 0 55 = true from decide_eq_true ⟨g0, g1⟩] at i2
  have i3 := fun W => rin_any tt 0 55 W
  rw [show inB tt 0 55 = true from decide_eq_true ⟨g2, g3⟩] at i3
  have us := fun W => uses_any 3 (by decide) W
  rw [show uB 3 = true from by decide, show uS 3 = false from by decide, show uN 3 = false from by decide, show uV 3 = false from by decide, show uL 3 = false from by decide] at us
  have hhd : headOK (⟨3, fr, tt, ro, no, sl, nu, v, l⟩ : Mg) = true := by unfold headOK; dsimp only; exact decide_eq_true ⟨by omega, by omega, g0, g1, g2, g3, g4⟩
  have g5 : (fr == tt) = false := by simp [g4]
  replace kb := Lib.hid kb; replace hB := Lib.hid hB; replace hE := Lib.hid hE; replace hhd := Lib.hid hhd; clear g0 g1 g2 g3 g4
  have hUs := Lib.hid (show U.heap.size = w.heap.size + 1 from by rw [hU]; simp)
  have u0 : U.cell? ⟨w.heap.size, 0, none⟩ = some (.int .i64 3) := blkC hB.out 0
  have u1 : U.cell? ⟨w.heap.size, 1, none⟩ = some (.int .i64 fr) := blkC hB.out 1
  have u2 : U.cell? ⟨w.heap.size, 2, none⟩ = some (.int .i64 tt) := blkC hB.out 2
  have u3 : U.cell? ⟨w.heap.size, 3, none⟩ = some (.int .i64 ro) := blkC hB.out 3
  have u4 : U.cell? ⟨w.heap.size, 4, none⟩ = some (.int .i64 no) := blkC hB.out 4
  have u5 : U.cell? ⟨w.heap.size, 5, none⟩ = some (.int .i64 sl) := blkC hB.out 5
  have u6 : U.cell? ⟨w.heap.size, 6, none⟩ = some (.int .i64 nu) := blkC hB.out 6
  have u7 : U.cell? ⟨w.heap.size, 7, none⟩ = some (.string (sOf v)) := blkC hB.out 7
  have u8 : U.cell? ⟨w.heap.size, 8, none⟩ = some (.slice A l.length c) := blkC hB.out 8
  have lU := blkX hB.out
  go_enter Tryz.func51, Tryz.ntmps51
  go_wp2_with (fail)
  rw [← hU]
  clear hU
  refine (i1 _).mono ?_
  rintro e w1 ⟨rfl, rfl⟩
  go_wp2_with (fail)
  refine (i2 _).mono ?_
  rintro e w1 ⟨rfl, rfl⟩
  go_wp2_with (fail)
  refine (i3 _).mono ?_
  rintro e w1 ⟨rfl, rfl⟩
  go_wp2_with (fail)
  refine (us _).mono ?_
  rintro e w1 ⟨rfl, rfl⟩
  go_wp2_with (fail)
  clear i1 i2 i3 us g5
  refine (rgood_any ro no _).mono ?_
  rintro e W1 ⟨rfl, b1⟩
  have kb1 := Lib.hid (kb.out.trans (b1.mono kb.out.size))
  have hB1 := Lib.hid ((b1.block _ (blkX hB.out)).trans hB.out)
  have hE2 := Lib.hid (SL.keep hE1.out b1)
  clear u0 u1 u2 u3 u4 u5 u6 u7 u8 lU
  clear b1 kb hB hE1
  have kb := kb1; have hB := hB1; have hE1 := hE2; clear kb1 hB1 hE2
  have u0 : W1.cell? ⟨w.heap.size, 0, none⟩ = some (.int .i64 3) := blkC hB.out 0
  have u1 : W1.cell? ⟨w.heap.size, 1, none⟩ = some (.int .i64 fr) := blkC hB.out 1
  have u2 : W1.cell? ⟨w.heap.size, 2, none⟩ = some (.int .i64 tt) := blkC hB.out 2
  have u3 : W1.cell? ⟨w.heap.size, 3, none⟩ = some (.int .i64 ro) := blkC hB.out 3
  have u4 : W1.cell? ⟨w.heap.size, 4, none⟩ = some (.int .i64 no) := blkC hB.out 4
  have u5 : W1.cell? ⟨w.heap.size, 5, none⟩ = some (.int .i64 sl) := blkC hB.out 5
  have u6 : W1.cell? ⟨w.heap.size, 6, none⟩ = some (.int .i64 nu) := blkC hB.out 6
  have u7 : W1.cell? ⟨w.heap.size, 7, none⟩ = some (.string (sOf v)) := blkC hB.out 7
  have u8 : W1.cell? ⟨w.heap.size, 8, none⟩ = some (.slice A l.length c) := blkC hB.out 8
  have lU := blkX hB.out
  by_cases hg : goodB ro no = true
  rotate_left
  · have hg2 := eq_false_of_ne_true hg
    rw [hg2]
    have hfin := Lib.hid (show argOK (⟨3, fr, tt, ro, no, sl, nu, v, l⟩ : Mg) = false from ano1 (by show (if uB 3 = true then goodB ro no else decide (ro = 0 ∧ no = 0)) = false; rw [if_pos (by decide)]; exact hg2))
    go_wp2_with (fail)
    go_ret
    exact ⟨by rw [hfin.out]; rfl, kb.out⟩
  rw [hg]
  have p1 := Lib.hid (show fB (⟨3, fr, tt, ro, no, sl, nu, v, l⟩ : Mg) = true from by show (if uB 3 = true then goodB ro no else decide (ro = 0 ∧ no = 0)) = true; rw [if_pos (by decide)]; exact hg)
  replace hg := Lib.hid hg
  by_cases hs0 : sl = 0
  rotate_left
  · have hs1 : (sl == 0) = false := by simp [hs0]
    have hfin := Lib.hid (show argOK (⟨3, fr, tt, ro, no, sl, nu, v, l⟩ : Mg) = false from ano2 (by show (if uS 3 = true then decide (0 ≤ sl ∧ sl ≤ kSl 3) else decide (sl = 0)) = false; rw [if_neg (by decide)]; exact decide_eq_false hs0))
    go_wp2_with (fail)
    go_ret
    exact ⟨by rw [hfin.out]; rfl, kb.out⟩
  have p2 := Lib.hid (show fS (⟨3, fr, tt, ro, no, sl, nu, v, l⟩ : Mg) = true from by show (if uS 3 = true then decide (0 ≤ sl ∧ sl ≤ kSl 3) else decide (sl = 0)) = true; rw [if_neg (by decide)]; exact decide_eq_true hs0)
  have hs1 : (sl == 0) = true := by simp [hs0]
  replace hs0 := Lib.hid hs0
  by_cases hn0 : nu = 0
  rotate_left
  · have hn1 : (nu == 0) = false := by simp [hn0]
    have hfin := Lib.hid (show argOK (⟨3, fr, tt, ro, no, sl, nu, v, l⟩ : Mg) = false from ano3 (by show (if uN 3 = true then decide (kLo 3 ≤ nu ∧ nu ≤ kHi 3) else decide (nu = 0)) = false; rw [if_neg (by decide)]; exact decide_eq_false hn0))
    go_wp2_with (fail)
    go_ret
    exact ⟨by rw [hfin.out]; rfl, kb.out⟩
  have p3 := Lib.hid (show fN (⟨3, fr, tt, ro, no, sl, nu, v, l⟩ : Mg) = true from by show (if uN 3 = true then decide (kLo 3 ≤ nu ∧ nu ≤ kHi 3) else decide (nu = 0)) = true; rw [if_neg (by decide)]; exact decide_eq_true hn0)
  have hn1 : (nu == 0) = true := by simp [hn0]
  replace hn0 := Lib.hid hn0
  by_cases hv0 : v = []
  rotate_left
  · have hv1 : (sOf v).toList.isEmpty = false := by rw [sOf_empty]; simp [hv0]
    have hfin := Lib.hid (show argOK (⟨3, fr, tt, ro, no, sl, nu, v, l⟩ : Mg) = false from ano4 (by show (if uV 3 = true then true else decide (v = [])) = false; rw [if_neg (by decide)]; exact decide_eq_false hv0))
    go_wp2_with (fail)
    go_ret
    exact ⟨by rw [hfin.out]; rfl, kb.out⟩
  have p4 := Lib.hid (show fV (⟨3, fr, tt, ro, no, sl, nu, v, l⟩ : Mg) = true from by show (if uV 3 = true then true else decide (v = [])) = true; rw [if_neg (by decide)]; exact decide_eq_true hv0)
  have hv1 : (sOf v).toList.isEmpty = true := by rw [sOf_empty]; simp [hv0]
  replace hv0 := Lib.hid hv0
  by_cases hl0 : l = []
  rotate_left
  · have hl1 : (0 : Int) < (l.length : Int) := by have := List.length_pos_iff.2 hl0; omega
    have hfin := Lib.hid (show argOK (⟨3, fr, tt, ro, no, sl, nu, v, l⟩ : Mg) = false from ano5 (by show (if uL 3 = true then okL (-1) l else decide (l = [])) = false; rw [if_neg (by decide)]; exact decide_eq_false hl0))
    go_wp2_with (fail)
    go_ret
    exact ⟨by rw [hfin.out]; rfl, kb.out⟩
  have p5 := Lib.hid (show fL (⟨3, fr, tt, ro, no, sl, nu, v, l⟩ : Mg) = true from by show (if uL 3 = true then okL (-1) l else decide (l = [])) = true; rw [if_neg (by decide)]; exact decide_eq_true hl0)
  have hl2 : l.length = 0 := by rw [hl0]; rfl
  have hl1 : ¬ (0 : Int) < (l.length : Int) := by omega
  replace hl0 := Lib.hid hl0
  go_wp2_with (fail)
  have hfin := Lib.hid (argOK_mk hhd.out p1.out p2.out p3.out p4.out p5.out)
  go_loopw [11] (fun i wr => i = .int .i64 0 ∧ wr = W1) (fun _ _ => 0)
  case atStart => exact ⟨rfl, rfl⟩
  case round =>
    revert wr
    intro W2 hrel
    obtain ⟨rfl, rfl⟩ := hrel
    go_wp2_with (fail)
    go_ret
    exact ⟨by rw [hfin.out]; rfl, kb.out⟩

set_option maxHeartbeats 32000000 in
theorem rvalid_4 (fr tt ro no sl nu : Int) (v : List UInt8) (l : List Ent) (A : Option Addr) (c : Nat) (w : World) (hE : ES w A l.length l) (hn : l.length ≤ 70368744177664) (hd : 0 ≤ fr ∧ fr ≤ 55 ∧ 0 ≤ tt ∧ tt ≤ 55 ∧ fr ≠ tt) :
    Calls Tryz.prog 51 #[.agg #[.int .i64 4, .int .i64 fr, .int .i64 tt, .int .i64 ro, .int .i64 no, .int .i64 sl, .int .i64 nu, .string (sOf v), .slice A l.length c]] w fun e w' => e = .returned (.bool (argOK ⟨4, fr, tt, ro, no, sl, nu, v, l⟩)) ∧ Below w.heap.size w w' := by
  obtain ⟨g0, g1, g2, g3, g4⟩ := hd
  obtain ⟨U, hU⟩ : ∃ U, U = w.alloc (.cells #[.int .i64 4, .int .i64 fr, .int .i64 tt, .int .i64 ro, .int .i64 no, .int .i64 sl, .int .i64 nu, .string (sOf v), .slice A l.length c] 28) := ⟨_, rfl⟩
  have kb : Below w.heap.size w U := by rw [hU]; exact (Below.refl _ w).alloc (Nat.le_refl _) _
  have hB : U.heap[w.heap.size]? = some (.cells #[.int .i64 4, .int .i64 fr, .int .i64 tt, .int .i64 ro, .int .i64 no, .int .i64 sl, .int .i64 nu, .string (sOf v), .slice A l.length c] 28 (0, 0)) := by rw [hU]; exact hpNew w _
  have hE1 := Lib.hid (SL.keep hE kb)
  have i1 := fun W => rin_any 4 1 11 W
  rw [show inB 4 1 11 = true from by decide] at i1
  have i2 := fun W => rin_any fr 0 55 W
  rw [show inB fr 0 55 = true from decide_eq_true ⟨g0, g1⟩] at i2
  have i3 := fun W => rin_any tt 0 55 W
  rw [show inB tt 0 55 = true from decide_eq_true ⟨g2, g3⟩] at i3
  have us := fun W => uses_any 4 (by decide) W
  rw [show uB 4 = true from by decide, show uS 4 = true from by decide, show uN 4 = false from by decide, show uV 4 = true from by decide, show uL 4 = false from by decide] at us
  have hhd : headOK (⟨4, fr, tt, ro, no, sl, nu, v, l⟩ : Mg) = true := by unfold headOK; dsimp only; exact decide_eq_true ⟨by omega, by omega, g0, g1, g2, g3, g4⟩
  have g5 : (fr == tt) = false := by simp [g4]
  replace kb := Lib.hid kb; replace hB := Lib.hid hB; replace hE := Lib.hid hE; replace hhd := Lib.hid hhd; clear g0 g1 g2 g3 g4
  have hUs := Lib.hid (show U.heap.size = w.heap.size + 1 from by rw [hU]; simp)
  have u0 : U.cell? ⟨w.heap.size, 0, none⟩ = some (.int .i64 4) := blkC hB.out 0
  have u1 : U.cell? ⟨w.heap.size, 1, none⟩ = some (.int .i64 fr) := blkC hB.out 1
  have u2 : U.cell? ⟨w.heap.size, 2, none⟩ = some (.int .i64 tt) := blkC hB.out 2
  have u3 : U.cell? ⟨w.heap.size, 3, none⟩ = some (.int .i64 ro) := blkC hB.out 3
  have u4 : U.cell? ⟨w.heap.size, 4, none⟩ = some (.int .i64 no) := blkC hB.out 4
  have u5 : U.cell? ⟨w.heap.size, 5, none⟩ = some (.int .i64 sl) := blkC hB.out 5
  have u6 : U.cell? ⟨w.heap.size, 6, none⟩ = some (.int .i64 nu) := blkC hB.out 6
  have u7 : U.cell? ⟨w.heap.size, 7, none⟩ = some (.string (sOf v)) := blkC hB.out 7
  have u8 : U.cell? ⟨w.heap.size, 8, none⟩ = some (.slice A l.length c) := blkC hB.out 8
  have lU := blkX hB.out
  go_enter Tryz.func51, Tryz.ntmps51
  go_wp2_with (fail)
  rw [← hU]
  clear hU
  refine (i1 _).mono ?_
  rintro e w1 ⟨rfl, rfl⟩
  go_wp2_with (fail)
  refine (i2 _).mono ?_
  rintro e w1 ⟨rfl, rfl⟩
  go_wp2_with (fail)
  refine (i3 _).mono ?_
  rintro e w1 ⟨rfl, rfl⟩
  go_wp2_with (fail)
  refine (us _).mono ?_
  rintro e w1 ⟨rfl, rfl⟩
  go_wp2_with (fail)
  clear i1 i2 i3 us g5
  refine (rgood_any ro no _).mono ?_
  rintro e W1 ⟨rfl, b1⟩
  have kb1 := Lib.hid (kb.out.trans (b1.mono kb.out.size))
  have hB1 := Lib.hid ((b1.block _ (blkX hB.out)).trans hB.out)
  have hE2 := Lib.hid (SL.keep hE1.out b1)
  clear u0 u1 u2 u3 u4 u5 u6 u7 u8 lU
  clear b1 kb hB hE1
  have kb := kb1; have hB := hB1; have hE1 := hE2; clear kb1 hB1 hE2
  have u0 : W1.cell? ⟨w.heap.size, 0, none⟩ = some (.int .i64 4) := blkC hB.out 0
  have u1 : W1.cell? ⟨w.heap.size, 1, none⟩ = some (.int .i64 fr) := blkC hB.out 1
  have u2 : W1.cell? ⟨w.heap.size, 2, none⟩ = some (.int .i64 tt) := blkC hB.out 2
  have u3 : W1.cell? ⟨w.heap.size, 3, none⟩ = some (.int .i64 ro) := blkC hB.out 3
  have u4 : W1.cell? ⟨w.heap.size, 4, none⟩ = some (.int .i64 no) := blkC hB.out 4
  have u5 : W1.cell? ⟨w.heap.size, 5, none⟩ = some (.int .i64 sl) := blkC hB.out 5
  have u6 : W1.cell? ⟨w.heap.size, 6, none⟩ = some (.int .i64 nu) := blkC hB.out 6
  have u7 : W1.cell? ⟨w.heap.size, 7, none⟩ = some (.string (sOf v)) := blkC hB.out 7
  have u8 : W1.cell? ⟨w.heap.size, 8, none⟩ = some (.slice A l.length c) := blkC hB.out 8
  have lU := blkX hB.out
  by_cases hg : goodB ro no = true
  rotate_left
  · have hg2 := eq_false_of_ne_true hg
    rw [hg2]
    have hfin := Lib.hid (show argOK (⟨4, fr, tt, ro, no, sl, nu, v, l⟩ : Mg) = false from ano1 (by show (if uB 4 = true then goodB ro no else decide (ro = 0 ∧ no = 0)) = false; rw [if_pos (by decide)]; exact hg2))
    go_wp2_with (fail)
    go_ret
    exact ⟨by rw [hfin.out]; rfl, kb.out⟩
  rw [hg]
  have p1 := Lib.hid (show fB (⟨4, fr, tt, ro, no, sl, nu, v, l⟩ : Mg) = true from by show (if uB 4 = true then goodB ro no else decide (ro = 0 ∧ no = 0)) = true; rw [if_pos (by decide)]; exact hg)
  replace hg := Lib.hid hg
  by_cases hn0 : nu = 0
  rotate_left
  · have hn1 : (nu == 0) = false := by simp [hn0]
    have hfin := Lib.hid (show argOK (⟨4, fr, tt, ro, no, sl, nu, v, l⟩ : Mg) = false from ano3 (by show (if uN 4 = true then decide (kLo 4 ≤ nu ∧ nu ≤ kHi 4) else decide (nu = 0)) = false; rw [if_neg (by decide)]; exact decide_eq_false hn0))
    go_wp2_with (fail)
    go_ret
    exact ⟨by rw [hfin.out]; rfl, kb.out⟩
  have p3 := Lib.hid (show fN (⟨4, fr, tt, ro, no, sl, nu, v, l⟩ : Mg) = true from by show (if uN 4 = true then decide (kLo 4 ≤ nu ∧ nu ≤ kHi 4) else decide (nu = 0)) = true; rw [if_neg (by decide)]; exact decide_eq_true hn0)
  have hn1 : (nu == 0) = true := by simp [hn0]
  replace hn0 := Lib.hid hn0
  have p4 := Lib.hid (show fV (⟨4, fr, tt, ro, no, sl, nu, v, l⟩ : Mg) = true from by show (if uV 4 = true then true else decide (v = [])) = true; rw [if_pos (by decide)])
  by_cases hl0 : l = []
  rotate_left
  · have hl1 : (0 : Int) < (l.length : Int) := by have := List.length_pos_iff.2 hl0; omega
    have hfin := Lib.hid (show argOK (⟨4, fr, tt, ro, no, sl, nu, v, l⟩ : Mg) = false from ano5 (by show (if uL 4 = true then okL (-1) l else decide (l = [])) = false; rw [if_neg (by decide)]; exact decide_eq_false hl0))
    go_wp2_with (fail)
    go_ret
    exact ⟨by rw [hfin.out]; rfl, kb.out⟩
  have p5 := Lib.hid (show fL (⟨4, fr, tt, ro, no, sl, nu, v, l⟩ : Mg) = true from by show (if uL 4 = true then okL (-1) l else decide (l = [])) = true; rw [if_neg (by decide)]; exact decide_eq_true hl0)
  have hl2 : l.length = 0 := by rw [hl0]; rfl
  have hl1 : ¬ (0 : Int) < (l.length : Int) := by omega
  replace hl0 := Lib.hid hl0
  go_wp2_with (fail)
  by_cases hs0 : 0 ≤ sl ∧ sl ≤ 4095
  rotate_left
  · refine (rin_any sl 0 4095 _).mono ?_
    rintro e w1 ⟨rfl, rfl⟩
    rw [show inB sl 0 4095 = false from decide_eq_false hs0]
    have hfin := Lib.hid (show argOK (⟨4, fr, tt, ro, no, sl, nu, v, l⟩ : Mg) = false from ano2 (by show (if uS 4 = true then decide (0 ≤ sl ∧ sl ≤ kSl 4) else decide (sl = 0)) = false; rw [if_pos (by decide), show kSl 4 = 4095 from by decide]; exact decide_eq_false hs0))
    go_wp2_with (fail)
    go_ret
    exact ⟨by rw [hfin.out]; rfl, kb.out⟩
  have p2 := Lib.hid (show fS (⟨4, fr, tt, ro, no, sl, nu, v, l⟩ : Mg) = true from by show (if uS 4 = true then decide (0 ≤ sl ∧ sl ≤ kSl 4) else decide (sl = 0)) = true; rw [if_pos (by decide), show kSl 4 = 4095 from by decide]; exact decide_eq_true hs0)
  refine (rin_any sl 0 4095 _).mono ?_
  rintro e w1 ⟨rfl, rfl⟩
  rw [show inB sl 0 4095 = true from decide_eq_true hs0]
  replace hs0 := Lib.hid hs0
  go_wp2_with (fail)
  have hfin := Lib.hid (argOK_mk hhd.out p1.out p2.out p3.out p4.out p5.out)
  go_loopw [11] (fun i wr => i = .int .i64 0 ∧ wr = W1) (fun _ _ => 0)
  case atStart => exact ⟨rfl, rfl⟩
  case round =>
    revert wr
    intro W2 hrel
    obtain ⟨rfl, rfl⟩ := hrel
    go_wp2_with (fail)
    go_ret
    exact ⟨by rw [hfin.out]; rfl, kb.out⟩

set_option maxHeartbeats 32000000 in
theorem rvalid_5 (fr tt ro no sl nu : Int) (v : List UInt8) (l : List Ent) (A : Option Addr) (c : Nat) (w : World) (hE : ES w A l.length l) (hn : l.length ≤ 70368744177664) (hd : 0 ≤ fr ∧ fr ≤ 55 ∧ 0 ≤ tt ∧ tt ≤ 55 ∧ fr ≠ tt) :
    Calls Tryz.prog 51 #[.agg #[.int .i64 5, .int .i64 fr, .int .i64 tt, .int .i64 ro, .int .i64 no, .int .i64 sl, .int .i64 nu, .string (sOf v), .slice A l.length c]] w fun e w' => e = .returned (.bool (argOK ⟨5, fr, tt, ro, no, sl, nu, v, l⟩)) ∧ Below w.heap.size w w' := by
  obtain ⟨g0, g1, g2, g3, g4⟩ := hd
  obtain ⟨U, hU⟩ : ∃ U, U = w.alloc (.cells #[.int .i64 5, .int .i64 fr, .int .i64 tt, .int .i64 ro, .int .i64 no, .int .i64 sl, .int .i64 nu, .string (sOf v), .slice A l.length c] 28) := ⟨_, rfl⟩
  have kb : Below w.heap.size w U := by rw [hU]; exact (Below.refl _ w).alloc (Nat.le_refl _) _
  have hB : U.heap[w.heap.size]? = some (.cells #[.int .i64 5, .int .i64 fr, .int .i64 tt, .int .i64 ro, .int .i64 no, .int .i64 sl, .int .i64 nu, .string (sOf v), .slice A l.length c] 28 (0, 0)) := by rw [hU]; exact hpNew w _
  have hE1 := Lib.hid (SL.keep hE kb)
  have i1 := fun W => rin_any 5 1 11 W
  rw [show inB 5 1 11 = true from by decide] at i1
  have i2 := fun W => rin_any fr 0 55 W
  rw [show inB fr 0 55 = true from decide_eq_true ⟨g0, g1⟩] at i2
  have i3 := fun W => rin_any tt 0 55 W
  rw [show inB tt 0 55 = true from decide_eq_true ⟨g2, g3⟩] at i3
  have us := fun W => uses_any 5 (by decide) W
  rw [show uB 5 = true from by decide, show uS 5 = true from by decide, show uN 5 = false from by decide, show uV 5 = false from by decide, show uL 5 = false from by decide] at us
  have hhd : headOK (⟨5, fr, tt, ro, no, sl, nu, v, l⟩ : Mg) = true := by unfold headOK; dsimp only; exact decide_eq_true ⟨by omega, by omega, g0, g1, g2, g3, g4⟩
  have g5 : (fr == tt) = false := by simp [g4]
  replace kb := Lib.hid kb; replace hB := Lib.hid hB; replace hE := Lib.hid hE; replace hhd := Lib.hid hhd; clear g0 g1 g2 g3 g4
  have hUs := Lib.hid (show U.heap.size = w.heap.size + 1 from by rw [hU]; simp)
  have u0 : U.cell? ⟨w.heap.size, 0, none⟩ = some (.int .i64 5) := blkC hB.out 0
  have u1 : U.cell? ⟨w.heap.size, 1, none⟩ = some (.int .i64 fr) := blkC hB.out 1
  have u2 : U.cell? ⟨w.heap.size, 2, none⟩ = some (.int .i64 tt) := blkC hB.out 2
  have u3 : U.cell? ⟨w.heap.size, 3, none⟩ = some (.int .i64 ro) := blkC hB.out 3
  have u4 : U.cell? ⟨w.heap.size, 4, none⟩ = some (.int .i64 no) := blkC hB.out 4
  have u5 : U.cell? ⟨w.heap.size, 5, none⟩ = some (.int .i64 sl) := blkC hB.out 5
  have u6 : U.cell? ⟨w.heap.size, 6, none⟩ = some (.int .i64 nu) := blkC hB.out 6
  have u7 : U.cell? ⟨w.heap.size, 7, none⟩ = some (.string (sOf v)) := blkC hB.out 7
  have u8 : U.cell? ⟨w.heap.size, 8, none⟩ = some (.slice A l.length c) := blkC hB.out 8
  have lU := blkX hB.out
  go_enter Tryz.func51, Tryz.ntmps51
  go_wp2_with (fail)
  rw [← hU]
  clear hU
  refine (i1 _).mono ?_
  rintro e w1 ⟨rfl, rfl⟩
  go_wp2_with (fail)
  refine (i2 _).mono ?_
  rintro e w1 ⟨rfl, rfl⟩
  go_wp2_with (fail)
  refine (i3 _).mono ?_
  rintro e w1 ⟨rfl, rfl⟩
  go_wp2_with (fail)
  refine (us _).mono ?_
  rintro e w1 ⟨rfl, rfl⟩
  go_wp2_with (fail)
  clear i1 i2 i3 us g5
  refine (rgood_any ro no _).mono ?_
  rintro e W1 ⟨rfl, b1⟩
  have kb1 := Lib.hid (kb.out.trans (b1.mono kb.out.size))
  have hB1 := Lib.hid ((b1.block _ (blkX hB.out)).trans hB.out)
  have hE2 := Lib.hid (SL.keep hE1.out b1)
  clear u0 u1 u2 u3 u4 u5 u6 u7 u8 lU
  clear b1 kb hB hE1
  have kb := kb1; have hB := hB1; have hE1 := hE2; clear kb1 hB1 hE2
  have u0 : W1.cell? ⟨w.heap.size, 0, none⟩ = some (.int .i64 5) := blkC hB.out 0
  have u1 : W1.cell? ⟨w.heap.size, 1, none⟩ = some (.int .i64 fr) := blkC hB.out 1
  have u2 : W1.cell? ⟨w.heap.size, 2, none⟩ = some (.int .i64 tt) := blkC hB.out 2
  have u3 : W1.cell? ⟨w.heap.size, 3, none⟩ = some (.int .i64 ro) := blkC hB.out 3
  have u4 : W1.cell? ⟨w.heap.size, 4, none⟩ = some (.int .i64 no) := blkC hB.out 4
  have u5 : W1.cell? ⟨w.heap.size, 5, none⟩ = some (.int .i64 sl) := blkC hB.out 5
  have u6 : W1.cell? ⟨w.heap.size, 6, none⟩ = some (.int .i64 nu) := blkC hB.out 6
  have u7 : W1.cell? ⟨w.heap.size, 7, none⟩ = some (.string (sOf v)) := blkC hB.out 7
  have u8 : W1.cell? ⟨w.heap.size, 8, none⟩ = some (.slice A l.length c) := blkC hB.out 8
  have lU := blkX hB.out
  by_cases hg : goodB ro no = true
  rotate_left
  · have hg2 := eq_false_of_ne_true hg
    rw [hg2]
    have hfin := Lib.hid (show argOK (⟨5, fr, tt, ro, no, sl, nu, v, l⟩ : Mg) = false from ano1 (by show (if uB 5 = true then goodB ro no else decide (ro = 0 ∧ no = 0)) = false; rw [if_pos (by decide)]; exact hg2))
    go_wp2_with (fail)
    go_ret
    exact ⟨by rw [hfin.out]; rfl, kb.out⟩
  rw [hg]
  have p1 := Lib.hid (show fB (⟨5, fr, tt, ro, no, sl, nu, v, l⟩ : Mg) = true from by show (if uB 5 = true then goodB ro no else decide (ro = 0 ∧ no = 0)) = true; rw [if_pos (by decide)]; exact hg)
  replace hg := Lib.hid hg
  by_cases hn0 : nu = 0
  rotate_left
  · have hn1 : (nu == 0) = false := by simp [hn0]
    have hfin := Lib.hid (show argOK (⟨5, fr, tt, ro, no, sl, nu, v, l⟩ : Mg) = false from ano3 (by show (if uN 5 = true then decide (kLo 5 ≤ nu ∧ nu ≤ kHi 5) else decide (nu = 0)) = false; rw [if_neg (by decide)]; exact decide_eq_false hn0))
    go_wp2_with (fail)
    go_ret
    exact ⟨by rw [hfin.out]; rfl, kb.out⟩
  have p3 := Lib.hid (show fN (⟨5, fr, tt, ro, no, sl, nu, v, l⟩ : Mg) = true from by show (if uN 5 = true then decide (kLo 5 ≤ nu ∧ nu ≤ kHi 5) else decide (nu = 0)) = true; rw [if_neg (by decide)]; exact decide_eq_true hn0)
  have hn1 : (nu == 0) = true := by simp [hn0]
  replace hn0 := Lib.hid hn0
  by_cases hv0 : v = []
  rotate_left
  · have hv1 : (sOf v).toList.isEmpty = false := by rw [sOf_empty]; simp [hv0]
    have hfin := Lib.hid (show argOK (⟨5, fr, tt, ro, no, sl, nu, v, l⟩ : Mg) = false from ano4 (by show (if uV 5 = true then true else decide (v = [])) = false; rw [if_neg (by decide)]; exact decide_eq_false hv0))
    go_wp2_with (fail)
    go_ret
    exact ⟨by rw [hfin.out]; rfl, kb.out⟩
  have p4 := Lib.hid (show fV (⟨5, fr, tt, ro, no, sl, nu, v, l⟩ : Mg) = true from by show (if uV 5 = true then true else decide (v = [])) = true; rw [if_neg (by decide)]; exact decide_eq_true hv0)
  have hv1 : (sOf v).toList.isEmpty = true := by rw [sOf_empty]; simp [hv0]
  replace hv0 := Lib.hid hv0
  by_cases hl0 : l = []
  rotate_left
  · have hl1 : (0 : Int) < (l.length : Int) := by have := List.length_pos_iff.2 hl0; omega
    have hfin := Lib.hid (show argOK (⟨5, fr, tt, ro, no, sl, nu, v, l⟩ : Mg) = false from ano5 (by show (if uL 5 = true then okL (-1) l else decide (l = [])) = false; rw [if_neg (by decide)]; exact decide_eq_false hl0))
    go_wp2_with (fail)
    go_ret
    exact ⟨by rw [hfin.out]; rfl, kb.out⟩
  have p5 := Lib.hid (show fL (⟨5, fr, tt, ro, no, sl, nu, v, l⟩ : Mg) = true from by show (if uL 5 = true then okL (-1) l else decide (l = [])) = true; rw [if_neg (by decide)]; exact decide_eq_true hl0)
  have hl2 : l.length = 0 := by rw [hl0]; rfl
  have hl1 : ¬ (0 : Int) < (l.length : Int) := by omega
  replace hl0 := Lib.hid hl0
  go_wp2_with (fail)
  by_cases hs0 : 0 ≤ sl ∧ sl ≤ 4095
  rotate_left
  · refine (rin_any sl 0 4095 _).mono ?_
    rintro e w1 ⟨rfl, rfl⟩
    rw [show inB sl 0 4095 = false from decide_eq_false hs0]
    have hfin := Lib.hid (show argOK (⟨5, fr, tt, ro, no, sl, nu, v, l⟩ : Mg) = false from ano2 (by show (if uS 5 = true then decide (0 ≤ sl ∧ sl ≤ kSl 5) else decide (sl = 0)) = false; rw [if_pos (by decide), show kSl 5 = 4095 from by decide]; exact decide_eq_false hs0))
    go_wp2_with (fail)
    go_ret
    exact ⟨by rw [hfin.out]; rfl, kb.out⟩
  have p2 := Lib.hid (show fS (⟨5, fr, tt, ro, no, sl, nu, v, l⟩ : Mg) = true from by show (if uS 5 = true then decide (0 ≤ sl ∧ sl ≤ kSl 5) else decide (sl = 0)) = true; rw [if_pos (by decide), show kSl 5 = 4095 from by decide]; exact decide_eq_true hs0)
  refine (rin_any sl 0 4095 _).mono ?_
  rintro e w1 ⟨rfl, rfl⟩
  rw [show inB sl 0 4095 = true from decide_eq_true hs0]
  replace hs0 := Lib.hid hs0
  go_wp2_with (fail)
  have hfin := Lib.hid (argOK_mk hhd.out p1.out p2.out p3.out p4.out p5.out)
  go_loopw [11] (fun i wr => i = .int .i64 0 ∧ wr = W1) (fun _ _ => 0)
  case atStart => exact ⟨rfl, rfl⟩
  case round =>
    revert wr
    intro W2 hrel
    obtain ⟨rfl, rfl⟩ := hrel
    go_wp2_with (fail)
    go_ret
    exact ⟨by rw [hfin.out]; rfl, kb.out⟩
end Go.Proofs.YtlinjanflenljaaGreatDoor

namespace Go.Proofs.YtlinjanflenljaaGreatDoor
open Go.RowKit
set_option linter.unusedSimpArgs false
set_option linter.unusedVariables false
set_option linter.unusedSectionVars false
set_option maxRecDepth 10000
set_option maxHeartbeats 32000000 in
theorem rvalid_6 (fr tt ro no sl nu : Int) (v : List UInt8) (l : List Ent) (A : Option Addr) (c : Nat) (w : World) (hE : ES w A l.length l) (hn : l.length ≤ 70368744177664) (hd : 0 ≤ fr ∧ fr ≤ 55 ∧ 0 ≤ tt ∧ tt ≤ 55 ∧ fr ≠ tt) :
    Calls Tryz.prog 51 #[.agg #[.int .i64 6, .int .i64 fr, .int .i64 tt, .int .i64 ro, .int .i64 no, .int .i64 sl, .int .i64 nu, .string (sOf v), .slice A l.length c]] w fun e w' => e = .returned (.bool (argOK ⟨6, fr, tt, ro, no, sl, nu, v, l⟩)) ∧ Below w.heap.size w w' := by
  obtain ⟨g0, g1, g2, g3, g4⟩ := hd
  obtain ⟨U, hU⟩ : ∃ U, U = w.alloc (.cells #[.int .i64 6, .int .i64 fr, .int .i64 tt, .int .i64 ro, .int .i64 no, .int .i64 sl, .int .i64 nu, .string (sOf v), .slice A l.length c] 28) := ⟨_, rfl⟩
  have kb : Below w.heap.size w U := by rw [hU]; exact (Below.refl _ w).alloc (Nat.le_refl _) _
  have hB : U.heap[w.heap.size]? = some (.cells #[.int .i64 6, .int .i64 fr, .int .i64 tt, .int .i64 ro, .int .i64 no, .int .i64 sl, .int .i64 nu, .string (sOf v), .slice A l.length c] 28 (0, 0)) := by rw [hU]; exact hpNew w _
  have hE1 := Lib.hid (SL.keep hE kb)
  have i1 := fun W => rin_any 6 1 11 W
  rw [show inB 6 1 11 = true from by decide] at i1
  have i2 := fun W => rin_any fr 0 55 W
  rw [show inB fr 0 55 = true from decide_eq_true ⟨g0, g1⟩] at i2
  have i3 := fun W => rin_any tt 0 55 W
  rw [show inB tt 0 55 = true from decide_eq_true ⟨g2, g3⟩] at i3
  have us := fun W => uses_any 6 (by decide) W
  rw [show uB 6 = false from by decide, show uS 6 = true from by decide, show uN 6 = false from by decide, show uV 6 = true from by decide, show uL 6 = false from by decide] at us
  have hhd : headOK (⟨6, fr, tt, ro, no, sl, nu, v, l⟩ : Mg) = true := by unfold headOK; dsimp only; exact decide_eq_true ⟨by omega, by omega, g0, g1, g2, g3, g4⟩
  have g5 : (fr == tt) = false := by simp [g4]
  replace kb := Lib.hid kb; replace hB := Lib.hid hB; replace hE := Lib.hid hE; replace hhd := Lib.hid hhd; clear g0 g1 g2 g3 g4
  have hUs := Lib.hid (show U.heap.size = w.heap.size + 1 from by rw [hU]; simp)
  have u0 : U.cell? ⟨w.heap.size, 0, none⟩ = some (.int .i64 6) := blkC hB.out 0
  have u1 : U.cell? ⟨w.heap.size, 1, none⟩ = some (.int .i64 fr) := blkC hB.out 1
  have u2 : U.cell? ⟨w.heap.size, 2, none⟩ = some (.int .i64 tt) := blkC hB.out 2
  have u3 : U.cell? ⟨w.heap.size, 3, none⟩ = some (.int .i64 ro) := blkC hB.out 3
  have u4 : U.cell? ⟨w.heap.size, 4, none⟩ = some (.int .i64 no) := blkC hB.out 4
  have u5 : U.cell? ⟨w.heap.size, 5, none⟩ = some (.int .i64 sl) := blkC hB.out 5
  have u6 : U.cell? ⟨w.heap.size, 6, none⟩ = some (.int .i64 nu) := blkC hB.out 6
  have u7 : U.cell? ⟨w.heap.size, 7, none⟩ = some (.string (sOf v)) := blkC hB.out 7
  have u8 : U.cell? ⟨w.heap.size, 8, none⟩ = some (.slice A l.length c) := blkC hB.out 8
  have lU := blkX hB.out
  go_enter Tryz.func51, Tryz.ntmps51
  go_wp2_with (fail)
  rw [← hU]
  clear hU
  refine (i1 _).mono ?_
  rintro e w1 ⟨rfl, rfl⟩
  go_wp2_with (fail)
  refine (i2 _).mono ?_
  rintro e w1 ⟨rfl, rfl⟩
  go_wp2_with (fail)
  refine (i3 _).mono ?_
  rintro e w1 ⟨rfl, rfl⟩
  go_wp2_with (fail)
  refine (us _).mono ?_
  rintro e w1 ⟨rfl, rfl⟩
  go_wp2_with (fail)
  clear i1 i2 i3 us g5
  refine (rgood_any ro no _).mono ?_
  rintro e W1 ⟨rfl, b1⟩
  have kb1 := Lib.hid (kb.out.trans (b1.mono kb.out.size))
  have hB1 := Lib.hid ((b1.block _ (blkX hB.out)).trans hB.out)
  have hE2 := Lib.hid (SL.keep hE1.out b1)
  clear u0 u1 u2 u3 u4 u5 u6 u7 u8 lU
  clear b1 kb hB hE1
  have kb := kb1; have hB := hB1; have hE1 := hE2; clear kb1 hB1 hE2
  have u0 : W1.cell? ⟨w.heap.size, 0, none⟩ = some (.int .i64 6) := blkC hB.out 0
  have u1 : W1.cell? ⟨w.heap.size, 1, none⟩ = some (.int .i64 fr) := blkC hB.out 1
  have u2 : W1.cell? ⟨w.heap.size, 2, none⟩ = some (.int .i64 tt) := blkC hB.out 2
  have u3 : W1.cell? ⟨w.heap.size, 3, none⟩ = some (.int .i64 ro) := blkC hB.out 3
  have u4 : W1.cell? ⟨w.heap.size, 4, none⟩ = some (.int .i64 no) := blkC hB.out 4
  have u5 : W1.cell? ⟨w.heap.size, 5, none⟩ = some (.int .i64 sl) := blkC hB.out 5
  have u6 : W1.cell? ⟨w.heap.size, 6, none⟩ = some (.int .i64 nu) := blkC hB.out 6
  have u7 : W1.cell? ⟨w.heap.size, 7, none⟩ = some (.string (sOf v)) := blkC hB.out 7
  have u8 : W1.cell? ⟨w.heap.size, 8, none⟩ = some (.slice A l.length c) := blkC hB.out 8
  have lU := blkX hB.out
  by_cases hg : goodB ro no = true
  · rw [hg]
    have hfin := Lib.hid (show argOK (⟨6, fr, tt, ro, no, sl, nu, v, l⟩ : Mg) = false from ano1 (by show (if uB 6 = true then goodB ro no else decide (ro = 0 ∧ no = 0)) = false; rw [if_neg (by decide)]; exact decide_eq_false (fun q => by rw [q.1, q.2] at hg; exact absurd hg (by decide))))
    go_wp2_with (fail)
    go_ret
    exact ⟨by rw [hfin.out]; rfl, kb.out⟩
  rw [eq_false_of_ne_true hg]
  by_cases hr0 : ro = 0
  rotate_left
  · have hr1 : (ro == 0) = false := by simp [hr0]
    have hfin := Lib.hid (show argOK (⟨6, fr, tt, ro, no, sl, nu, v, l⟩ : Mg) = false from ano1 (by show (if uB 6 = true then goodB ro no else decide (ro = 0 ∧ no = 0)) = false; rw [if_neg (by decide)]; exact decide_eq_false (fun q => hr0 q.1)))
    go_wp2_with (fail)
    go_ret
    exact ⟨by rw [hfin.out]; rfl, kb.out⟩
  subst hr0
  by_cases hr0 : no = 0
  rotate_left
  · have hr1 : (no == 0) = false := by simp [hr0]
    have hfin := Lib.hid (show argOK (⟨6, fr, tt, 0, no, sl, nu, v, l⟩ : Mg) = false from ano1 (by show (if uB 6 = true then goodB 0 no else decide ((0 : Int) = 0 ∧ no = 0)) = false; rw [if_neg (by decide)]; exact decide_eq_false (fun q => hr0 q.2)))
    go_wp2_with (fail)
    go_ret
    exact ⟨by rw [hfin.out]; rfl, kb.out⟩
  subst hr0
  have p1 := Lib.hid (show fB (⟨6, fr, tt, 0, 0, sl, nu, v, l⟩ : Mg) = true from by show (if uB 6 = true then goodB 0 0 else decide ((0 : Int) = 0 ∧ (0 : Int) = 0)) = true; rw [if_neg (by decide)]; rfl)
  replace hg := Lib.hid hg
  by_cases hn0 : nu = 0
  rotate_left
  · have hn1 : (nu == 0) = false := by simp [hn0]
    have hfin := Lib.hid (show argOK (⟨6, fr, tt, 0, 0, sl, nu, v, l⟩ : Mg) = false from ano3 (by show (if uN 6 = true then decide (kLo 6 ≤ nu ∧ nu ≤ kHi 6) else decide (nu = 0)) = false; rw [if_neg (by decide)]; exact decide_eq_false hn0))
    go_wp2_with (fail)
    go_ret
    exact ⟨by rw [hfin.out]; rfl, kb.out⟩
  have p3 := Lib.hid (show fN (⟨6, fr, tt, 0, 0, sl, nu, v, l⟩ : Mg) = true from by show (if uN 6 = true then decide (kLo 6 ≤ nu ∧ nu ≤ kHi 6) else decide (nu = 0)) = true; rw [if_neg (by decide)]; exact decide_eq_true hn0)
  have hn1 : (nu == 0) = true := by simp [hn0]
  replace hn0 := Lib.hid hn0
  have p4 := Lib.hid (show fV (⟨6, fr, tt, 0, 0, sl, nu, v, l⟩ : Mg) = true from by show (if uV 6 = true then true else decide (v = [])) = true; rw [if_pos (by decide)])
  by_cases hl0 : l = []
  rotate_left
  · have hl1 : (0 : Int) < (l.length : Int) := by have := List.length_pos_iff.2 hl0; omega
    have hfin := Lib.hid (show argOK (⟨6, fr, tt, 0, 0, sl, nu, v, l⟩ : Mg) = false from ano5 (by show (if uL 6 = true then okL (-1) l else decide (l = [])) = false; rw [if_neg (by decide)]; exact decide_eq_false hl0))
    go_wp2_with (fail)
    go_ret
    exact ⟨by rw [hfin.out]; rfl, kb.out⟩
  have p5 := Lib.hid (show fL (⟨6, fr, tt, 0, 0, sl, nu, v, l⟩ : Mg) = true from by show (if uL 6 = true then okL (-1) l else decide (l = [])) = true; rw [if_neg (by decide)]; exact decide_eq_true hl0)
  have hl2 : l.length = 0 := by rw [hl0]; rfl
  have hl1 : ¬ (0 : Int) < (l.length : Int) := by omega
  replace hl0 := Lib.hid hl0
  go_wp2_with (fail)
  by_cases hs0 : 0 ≤ sl ∧ sl ≤ 4095
  rotate_left
  · refine (rin_any sl 0 4095 _).mono ?_
    rintro e w1 ⟨rfl, rfl⟩
    rw [show inB sl 0 4095 = false from decide_eq_false hs0]
    have hfin := Lib.hid (show argOK (⟨6, fr, tt, 0, 0, sl, nu, v, l⟩ : Mg) = false from ano2 (by show (if uS 6 = true then decide (0 ≤ sl ∧ sl ≤ kSl 6) else decide (sl = 0)) = false; rw [if_pos (by decide), show kSl 6 = 4095 from by decide]; exact decide_eq_false hs0))
    go_wp2_with (fail)
    go_ret
    exact ⟨by rw [hfin.out]; rfl, kb.out⟩
  have p2 := Lib.hid (show fS (⟨6, fr, tt, 0, 0, sl, nu, v, l⟩ : Mg) = true from by show (if uS 6 = true then decide (0 ≤ sl ∧ sl ≤ kSl 6) else decide (sl = 0)) = true; rw [if_pos (by decide), show kSl 6 = 4095 from by decide]; exact decide_eq_true hs0)
  refine (rin_any sl 0 4095 _).mono ?_
  rintro e w1 ⟨rfl, rfl⟩
  rw [show inB sl 0 4095 = true from decide_eq_true hs0]
  replace hs0 := Lib.hid hs0
  go_wp2_with (fail)
  have hfin := Lib.hid (argOK_mk hhd.out p1.out p2.out p3.out p4.out p5.out)
  go_loopw [11] (fun i wr => i = .int .i64 0 ∧ wr = W1) (fun _ _ => 0)
  case atStart => exact ⟨rfl, rfl⟩
  case round =>
    revert wr
    intro W2 hrel
    obtain ⟨rfl, rfl⟩ := hrel
    go_wp2_with (fail)
    go_ret
    exact ⟨by rw [hfin.out]; rfl, kb.out⟩

set_option maxHeartbeats 32000000 in
theorem rvalid_7 (fr tt ro no sl nu : Int) (v : List UInt8) (l : List Ent) (A : Option Addr) (c : Nat) (w : World) (hE : ES w A l.length l) (hn : l.length ≤ 70368744177664) (hd : 0 ≤ fr ∧ fr ≤ 55 ∧ 0 ≤ tt ∧ tt ≤ 55 ∧ fr ≠ tt) :
    Calls Tryz.prog 51 #[.agg #[.int .i64 7, .int .i64 fr, .int .i64 tt, .int .i64 ro, .int .i64 no, .int .i64 sl, .int .i64 nu, .string (sOf v), .slice A l.length c]] w fun e w' => e = .returned (.bool (argOK ⟨7, fr, tt, ro, no, sl, nu, v, l⟩)) ∧ Below w.heap.size w w' := by
  obtain ⟨g0, g1, g2, g3, g4⟩ := hd
  obtain ⟨U, hU⟩ : ∃ U, U = w.alloc (.cells #[.int .i64 7, .int .i64 fr, .int .i64 tt, .int .i64 ro, .int .i64 no, .int .i64 sl, .int .i64 nu, .string (sOf v), .slice A l.length c] 28) := ⟨_, rfl⟩
  have kb : Below w.heap.size w U := by rw [hU]; exact (Below.refl _ w).alloc (Nat.le_refl _) _
  have hB : U.heap[w.heap.size]? = some (.cells #[.int .i64 7, .int .i64 fr, .int .i64 tt, .int .i64 ro, .int .i64 no, .int .i64 sl, .int .i64 nu, .string (sOf v), .slice A l.length c] 28 (0, 0)) := by rw [hU]; exact hpNew w _
  have hE1 := Lib.hid (SL.keep hE kb)
  have i1 := fun W => rin_any 7 1 11 W
  rw [show inB 7 1 11 = true from by decide] at i1
  have i2 := fun W => rin_any fr 0 55 W
  rw [show inB fr 0 55 = true from decide_eq_true ⟨g0, g1⟩] at i2
  have i3 := fun W => rin_any tt 0 55 W
  rw [show inB tt 0 55 = true from decide_eq_true ⟨g2, g3⟩] at i3
  have us := fun W => uses_any 7 (by decide) W
  rw [show uB 7 = true from by decide, show uS 7 = false from by decide, show uN 7 = true from by decide, show uV 7 = false from by decide, show uL 7 = false from by decide] at us
  have hhd : headOK (⟨7, fr, tt, ro, no, sl, nu, v, l⟩ : Mg) = true := by unfold headOK; dsimp only; exact decide_eq_true ⟨by omega, by omega, g0, g1, g2, g3, g4⟩
  have g5 : (fr == tt) = false := by simp [g4]
  replace kb := Lib.hid kb; replace hB := Lib.hid hB; replace hE := Lib.hid hE; replace hhd := Lib.hid hhd; clear g0 g1 g2 g3 g4
  have hUs := Lib.hid (show U.heap.size = w.heap.size + 1 from by rw [hU]; simp)
  have u0 : U.cell? ⟨w.heap.size, 0, none⟩ = some (.int .i64 7) := blkC hB.out 0
  have u1 : U.cell? ⟨w.heap.size, 1, none⟩ = some (.int .i64 fr) := blkC hB.out 1
  have u2 : U.cell? ⟨w.heap.size, 2, none⟩ = some (.int .i64 tt) := blkC hB.out 2
  have u3 : U.cell? ⟨w.heap.size, 3, none⟩ = some (.int .i64 ro) := blkC hB.out 3
  have u4 : U.cell? ⟨w.heap.size, 4, none⟩ = some (.int .i64 no) := blkC hB.out 4
  have u5 : U.cell? ⟨w.heap.size, 5, none⟩ = some (.int .i64 sl) := blkC hB.out 5
  have u6 : U.cell? ⟨w.heap.size, 6, none⟩ = some (.int .i64 nu) := blkC hB.out 6
  have u7 : U.cell? ⟨w.heap.size, 7, none⟩ = some (.string (sOf v)) := blkC hB.out 7
  have u8 : U.cell? ⟨w.heap.size, 8, none⟩ = some (.slice A l.length c) := blkC hB.out 8
  have lU := blkX hB.out
  go_enter Tryz.func51, Tryz.ntmps51
  go_wp2_with (fail)
  rw [← hU]
  clear hU
  refine (i1 _).mono ?_
  rintro e w1 ⟨rfl, rfl⟩
  go_wp2_with (fail)
  refine (i2 _).mono ?_
  rintro e w1 ⟨rfl, rfl⟩
  go_wp2_with (fail)
  refine (i3 _).mono ?_
  rintro e w1 ⟨rfl, rfl⟩
  go_wp2_with (fail)
  refine (us _).mono ?_
  rintro e w1 ⟨rfl, rfl⟩
  go_wp2_with (fail)
  clear i1 i2 i3 us g5
  refine (rgood_any ro no _).mono ?_
  rintro e W1 ⟨rfl, b1⟩
  have kb1 := Lib.hid (kb.out.trans (b1.mono kb.out.size))
  have hB1 := Lib.hid ((b1.block _ (blkX hB.out)).trans hB.out)
  have hE2 := Lib.hid (SL.keep hE1.out b1)
  clear u0 u1 u2 u3 u4 u5 u6 u7 u8 lU
  clear b1 kb hB hE1
  have kb := kb1; have hB := hB1; have hE1 := hE2; clear kb1 hB1 hE2
  have u0 : W1.cell? ⟨w.heap.size, 0, none⟩ = some (.int .i64 7) := blkC hB.out 0
  have u1 : W1.cell? ⟨w.heap.size, 1, none⟩ = some (.int .i64 fr) := blkC hB.out 1
  have u2 : W1.cell? ⟨w.heap.size, 2, none⟩ = some (.int .i64 tt) := blkC hB.out 2
  have u3 : W1.cell? ⟨w.heap.size, 3, none⟩ = some (.int .i64 ro) := blkC hB.out 3
  have u4 : W1.cell? ⟨w.heap.size, 4, none⟩ = some (.int .i64 no) := blkC hB.out 4
  have u5 : W1.cell? ⟨w.heap.size, 5, none⟩ = some (.int .i64 sl) := blkC hB.out 5
  have u6 : W1.cell? ⟨w.heap.size, 6, none⟩ = some (.int .i64 nu) := blkC hB.out 6
  have u7 : W1.cell? ⟨w.heap.size, 7, none⟩ = some (.string (sOf v)) := blkC hB.out 7
  have u8 : W1.cell? ⟨w.heap.size, 8, none⟩ = some (.slice A l.length c) := blkC hB.out 8
  have lU := blkX hB.out
  by_cases hg : goodB ro no = true
  rotate_left
  · have hg2 := eq_false_of_ne_true hg
    rw [hg2]
    have hfin := Lib.hid (show argOK (⟨7, fr, tt, ro, no, sl, nu, v, l⟩ : Mg) = false from ano1 (by show (if uB 7 = true then goodB ro no else decide (ro = 0 ∧ no = 0)) = false; rw [if_pos (by decide)]; exact hg2))
    go_wp2_with (fail)
    go_ret
    exact ⟨by rw [hfin.out]; rfl, kb.out⟩
  rw [hg]
  have p1 := Lib.hid (show fB (⟨7, fr, tt, ro, no, sl, nu, v, l⟩ : Mg) = true from by show (if uB 7 = true then goodB ro no else decide (ro = 0 ∧ no = 0)) = true; rw [if_pos (by decide)]; exact hg)
  replace hg := Lib.hid hg
  by_cases hs0 : sl = 0
  rotate_left
  · have hs1 : (sl == 0) = false := by simp [hs0]
    have hfin := Lib.hid (show argOK (⟨7, fr, tt, ro, no, sl, nu, v, l⟩ : Mg) = false from ano2 (by show (if uS 7 = true then decide (0 ≤ sl ∧ sl ≤ kSl 7) else decide (sl = 0)) = false; rw [if_neg (by decide)]; exact decide_eq_false hs0))
    go_wp2_with (fail)
    go_ret
    exact ⟨by rw [hfin.out]; rfl, kb.out⟩
  have p2 := Lib.hid (show fS (⟨7, fr, tt, ro, no, sl, nu, v, l⟩ : Mg) = true from by show (if uS 7 = true then decide (0 ≤ sl ∧ sl ≤ kSl 7) else decide (sl = 0)) = true; rw [if_neg (by decide)]; exact decide_eq_true hs0)
  have hs1 : (sl == 0) = true := by simp [hs0]
  replace hs0 := Lib.hid hs0
  by_cases hv0 : v = []
  rotate_left
  · have hv1 : (sOf v).toList.isEmpty = false := by rw [sOf_empty]; simp [hv0]
    have hfin := Lib.hid (show argOK (⟨7, fr, tt, ro, no, sl, nu, v, l⟩ : Mg) = false from ano4 (by show (if uV 7 = true then true else decide (v = [])) = false; rw [if_neg (by decide)]; exact decide_eq_false hv0))
    go_wp2_with (fail)
    go_ret
    exact ⟨by rw [hfin.out]; rfl, kb.out⟩
  have p4 := Lib.hid (show fV (⟨7, fr, tt, ro, no, sl, nu, v, l⟩ : Mg) = true from by show (if uV 7 = true then true else decide (v = [])) = true; rw [if_neg (by decide)]; exact decide_eq_true hv0)
  have hv1 : (sOf v).toList.isEmpty = true := by rw [sOf_empty]; simp [hv0]
  replace hv0 := Lib.hid hv0
  by_cases hl0 : l = []
  rotate_left
  · have hl1 : (0 : Int) < (l.length : Int) := by have := List.length_pos_iff.2 hl0; omega
    have hfin := Lib.hid (show argOK (⟨7, fr, tt, ro, no, sl, nu, v, l⟩ : Mg) = false from ano5 (by show (if uL 7 = true then okL (-1) l else decide (l = [])) = false; rw [if_neg (by decide)]; exact decide_eq_false hl0))
    go_wp2_with (fail)
    go_ret
    exact ⟨by rw [hfin.out]; rfl, kb.out⟩
  have p5 := Lib.hid (show fL (⟨7, fr, tt, ro, no, sl, nu, v, l⟩ : Mg) = true from by show (if uL 7 = true then okL (-1) l else decide (l = [])) = true; rw [if_neg (by decide)]; exact decide_eq_true hl0)
  have hl2 : l.length = 0 := by rw [hl0]; rfl
  have hl1 : ¬ (0 : Int) < (l.length : Int) := by omega
  replace hl0 := Lib.hid hl0
  go_wp2_with (fail)
  by_cases hn0 : 0 ≤ nu ∧ nu ≤ 4096
  rotate_left
  · refine (rin_any nu 0 4096 _).mono ?_
    rintro e w1 ⟨rfl, rfl⟩
    rw [show inB nu 0 4096 = false from decide_eq_false hn0]
    have hfin := Lib.hid (show argOK (⟨7, fr, tt, ro, no, sl, nu, v, l⟩ : Mg) = false from ano3 (by show (if uN 7 = true then decide (kLo 7 ≤ nu ∧ nu ≤ kHi 7) else decide (nu = 0)) = false; rw [if_pos (by decide), show kLo 7 = 0 from by decide, show kHi 7 = 4096 from by decide]; exact decide_eq_false hn0))
    go_wp2_with (fail)
    go_ret
    exact ⟨by rw [hfin.out]; rfl, kb.out⟩
  have p3 := Lib.hid (show fN (⟨7, fr, tt, ro, no, sl, nu, v, l⟩ : Mg) = true from by show (if uN 7 = true then decide (kLo 7 ≤ nu ∧ nu ≤ kHi 7) else decide (nu = 0)) = true; rw [if_pos (by decide), show kLo 7 = 0 from by decide, show kHi 7 = 4096 from by decide]; exact decide_eq_true hn0)
  refine (rin_any nu 0 4096 _).mono ?_
  rintro e w1 ⟨rfl, rfl⟩
  rw [show inB nu 0 4096 = true from decide_eq_true hn0]
  replace hn0 := Lib.hid hn0
  go_wp2_with (fail)
  have hfin := Lib.hid (argOK_mk hhd.out p1.out p2.out p3.out p4.out p5.out)
  go_loopw [11] (fun i wr => i = .int .i64 0 ∧ wr = W1) (fun _ _ => 0)
  case atStart => exact ⟨rfl, rfl⟩
  case round =>
    revert wr
    intro W2 hrel
    obtain ⟨rfl, rfl⟩ := hrel
    go_wp2_with (fail)
    go_ret
    exact ⟨by rw [hfin.out]; rfl, kb.out⟩

set_option maxHeartbeats 32000000 in
theorem rvalid_8 (fr tt ro no sl nu : Int) (v : List UInt8) (l : List Ent) (A : Option Addr) (c : Nat) (w : World) (hE : ES w A l.length l) (hn : l.length ≤ 70368744177664) (hd : 0 ≤ fr ∧ fr ≤ 55 ∧ 0 ≤ tt ∧ tt ≤ 55 ∧ fr ≠ tt) :
    Calls Tryz.prog 51 #[.agg #[.int .i64 8, .int .i64 fr, .int .i64 tt, .int .i64 ro, .int .i64 no, .int .i64 sl, .int .i64 nu, .string (sOf v), .slice A l.length c]] w fun e w' => e = .returned (.bool (argOK ⟨8, fr, tt, ro, no, sl, nu, v, l⟩)) ∧ Below w.heap.size w w' := by
  obtain ⟨g0, g1, g2, g3, g4⟩ := hd
  obtain ⟨U, hU⟩ : ∃ U, U = w.alloc (.cells #[.int .i64 8, .int .i64 fr, .int .i64 tt, .int .i64 ro, .int .i64 no, .int .i64 sl, .int .i64 nu, .string (sOf v), .slice A l.length c] 28) := ⟨_, rfl⟩
  have kb : Below w.heap.size w U := by rw [hU]; exact (Below.refl _ w).alloc (Nat.le_refl _) _
  have hB : U.heap[w.heap.size]? = some (.cells #[.int .i64 8, .int .i64 fr, .int .i64 tt, .int .i64 ro, .int .i64 no, .int .i64 sl, .int .i64 nu, .string (sOf v), .slice A l.length c] 28 (0, 0)) := by rw [hU]; exact hpNew w _
  have hE1 := Lib.hid (SL.keep hE kb)
  have i1 := fun W => rin_any 8 1 11 W
  rw [show inB 8 1 11 = true from by decide] at i1
  have i2 := fun W => rin_any fr 0 55 W
  rw [show inB fr 0 55 = true from decide_eq_true ⟨g0, g1⟩] at i2
  have i3 := fun W => rin_any tt 0 55 W
  rw [show inB tt 0 55 = true from decide_eq_true ⟨g2, g3⟩] at i3
  have us := fun W => uses_any 8 (by decide) W
  rw [show uB 8 = false from by decide, show uS 8 = true from by decide, show uN 8 = false from by decide, show uV 8 = false from by decide, show uL 8 = false from by decide] at us
  have hhd : headOK (⟨8, fr, tt, ro, no, sl, nu, v, l⟩ : Mg) = true := by unfold headOK; dsimp only; exact decide_eq_true ⟨by omega, by omega, g0, g1, g2, g3, g4⟩
  have g5 : (fr == tt) = false := by simp [g4]
  replace kb := Lib.hid kb; replace hB := Lib.hid hB; replace hE := Lib.hid hE; replace hhd := Lib.hid hhd; clear g0 g1 g2 g3 g4
  have hUs := Lib.hid (show U.heap.size = w.heap.size + 1 from by rw [hU]; simp)
  have u0 : U.cell? ⟨w.heap.size, 0, none⟩ = some (.int .i64 8) := blkC hB.out 0
  have u1 : U.cell? ⟨w.heap.size, 1, none⟩ = some (.int .i64 fr) := blkC hB.out 1
  have u2 : U.cell? ⟨w.heap.size, 2, none⟩ = some (.int .i64 tt) := blkC hB.out 2
  have u3 : U.cell? ⟨w.heap.size, 3, none⟩ = some (.int .i64 ro) := blkC hB.out 3
  have u4 : U.cell? ⟨w.heap.size, 4, none⟩ = some (.int .i64 no) := blkC hB.out 4
  have u5 : U.cell? ⟨w.heap.size, 5, none⟩ = some (.int .i64 sl) := blkC hB.out 5
  have u6 : U.cell? ⟨w.heap.size, 6, none⟩ = some (.int .i64 nu) := blkC hB.out 6
  have u7 : U.cell? ⟨w.heap.size, 7, none⟩ = some (.string (sOf v)) := blkC hB.out 7
  have u8 : U.cell? ⟨w.heap.size, 8, none⟩ = some (.slice A l.length c) := blkC hB.out 8
  have lU := blkX hB.out
  go_enter Tryz.func51, Tryz.ntmps51
  go_wp2_with (fail)
  rw [← hU]
  clear hU
  refine (i1 _).mono ?_
  rintro e w1 ⟨rfl, rfl⟩
  go_wp2_with (fail)
  refine (i2 _).mono ?_
  rintro e w1 ⟨rfl, rfl⟩
  go_wp2_with (fail)
  refine (i3 _).mono ?_
  rintro e w1 ⟨rfl, rfl⟩
  go_wp2_with (fail)
  refine (us _).mono ?_
  rintro e w1 ⟨rfl, rfl⟩
  go_wp2_with (fail)
  clear i1 i2 i3 us g5
  refine (rgood_any ro no _).mono ?_
  rintro e W1 ⟨rfl, b1⟩
  have kb1 := Lib.hid (kb.out.trans (b1.mono kb.out.size))
  have hB1 := Lib.hid ((b1.block _ (blkX hB.out)).trans hB.out)
  have hE2 := Lib.hid (SL.keep hE1.out b1)
  clear u0 u1 u2 u3 u4 u5 u6 u7 u8 lU
  clear b1 kb hB hE1
  have kb := kb1; have hB := hB1; have hE1 := hE2; clear kb1 hB1 hE2
  have u0 : W1.cell? ⟨w.heap.size, 0, none⟩ = some (.int .i64 8) := blkC hB.out 0
  have u1 : W1.cell? ⟨w.heap.size, 1, none⟩ = some (.int .i64 fr) := blkC hB.out 1
  have u2 : W1.cell? ⟨w.heap.size, 2, none⟩ = some (.int .i64 tt) := blkC hB.out 2
  have u3 : W1.cell? ⟨w.heap.size, 3, none⟩ = some (.int .i64 ro) := blkC hB.out 3
  have u4 : W1.cell? ⟨w.heap.size, 4, none⟩ = some (.int .i64 no) := blkC hB.out 4
  have u5 : W1.cell? ⟨w.heap.size, 5, none⟩ = some (.int .i64 sl) := blkC hB.out 5
  have u6 : W1.cell? ⟨w.heap.size, 6, none⟩ = some (.int .i64 nu) := blkC hB.out 6
  have u7 : W1.cell? ⟨w.heap.size, 7, none⟩ = some (.string (sOf v)) := blkC hB.out 7
  have u8 : W1.cell? ⟨w.heap.size, 8, none⟩ = some (.slice A l.length c) := blkC hB.out 8
  have lU := blkX hB.out
  by_cases hg : goodB ro no = true
  · rw [hg]
    have hfin := Lib.hid (show argOK (⟨8, fr, tt, ro, no, sl, nu, v, l⟩ : Mg) = false from ano1 (by show (if uB 8 = true then goodB ro no else decide (ro = 0 ∧ no = 0)) = false; rw [if_neg (by decide)]; exact decide_eq_false (fun q => by rw [q.1, q.2] at hg; exact absurd hg (by decide))))
    go_wp2_with (fail)
    go_ret
    exact ⟨by rw [hfin.out]; rfl, kb.out⟩
  rw [eq_false_of_ne_true hg]
  by_cases hr0 : ro = 0
  rotate_left
  · have hr1 : (ro == 0) = false := by simp [hr0]
    have hfin := Lib.hid (show argOK (⟨8, fr, tt, ro, no, sl, nu, v, l⟩ : Mg) = false from ano1 (by show (if uB 8 = true then goodB ro no else decide (ro = 0 ∧ no = 0)) = false; rw [if_neg (by decide)]; exact decide_eq_false (fun q => hr0 q.1)))
    go_wp2_with (fail)
    go_ret
    exact ⟨by rw [hfin.out]; rfl, kb.out⟩
  subst hr0
  by_cases hr0 : no = 0
  rotate_left
  · have hr1 : (no == 0) = false := by simp [hr0]
    have hfin := Lib.hid (show argOK (⟨8, fr, tt, 0, no, sl, nu, v, l⟩ : Mg) = false from ano1 (by show (if uB 8 = true then goodB 0 no else decide ((0 : Int) = 0 ∧ no = 0)) = false; rw [if_neg (by decide)]; exact decide_eq_false (fun q => hr0 q.2)))
    go_wp2_with (fail)
    go_ret
    exact ⟨by rw [hfin.out]; rfl, kb.out⟩
  subst hr0
  have p1 := Lib.hid (show fB (⟨8, fr, tt, 0, 0, sl, nu, v, l⟩ : Mg) = true from by show (if uB 8 = true then goodB 0 0 else decide ((0 : Int) = 0 ∧ (0 : Int) = 0)) = true; rw [if_neg (by decide)]; rfl)
  replace hg := Lib.hid hg
  by_cases hn0 : nu = 0
  rotate_left
  · have hn1 : (nu == 0) = false := by simp [hn0]
    have hfin := Lib.hid (show argOK (⟨8, fr, tt, 0, 0, sl, nu, v, l⟩ : Mg) = false from ano3 (by show (if uN 8 = true then decide (kLo 8 ≤ nu ∧ nu ≤ kHi 8) else decide (nu = 0)) = false; rw [if_neg (by decide)]; exact decide_eq_false hn0))
    go_wp2_with (fail)
    go_ret
    exact ⟨by rw [hfin.out]; rfl, kb.out⟩
  have p3 := Lib.hid (show fN (⟨8, fr, tt, 0, 0, sl, nu, v, l⟩ : Mg) = true from by show (if uN 8 = true then decide (kLo 8 ≤ nu ∧ nu ≤ kHi 8) else decide (nu = 0)) = true; rw [if_neg (by decide)]; exact decide_eq_true hn0)
  have hn1 : (nu == 0) = true := by simp [hn0]
  replace hn0 := Lib.hid hn0
  by_cases hv0 : v = []
  rotate_left
  · have hv1 : (sOf v).toList.isEmpty = false := by rw [sOf_empty]; simp [hv0]
    have hfin := Lib.hid (show argOK (⟨8, fr, tt, 0, 0, sl, nu, v, l⟩ : Mg) = false from ano4 (by show (if uV 8 = true then true else decide (v = [])) = false; rw [if_neg (by decide)]; exact decide_eq_false hv0))
    go_wp2_with (fail)
    go_ret
    exact ⟨by rw [hfin.out]; rfl, kb.out⟩
  have p4 := Lib.hid (show fV (⟨8, fr, tt, 0, 0, sl, nu, v, l⟩ : Mg) = true from by show (if uV 8 = true then true else decide (v = [])) = true; rw [if_neg (by decide)]; exact decide_eq_true hv0)
  have hv1 : (sOf v).toList.isEmpty = true := by rw [sOf_empty]; simp [hv0]
  replace hv0 := Lib.hid hv0
  by_cases hl0 : l = []
  rotate_left
  · have hl1 : (0 : Int) < (l.length : Int) := by have := List.length_pos_iff.2 hl0; omega
    have hfin := Lib.hid (show argOK (⟨8, fr, tt, 0, 0, sl, nu, v, l⟩ : Mg) = false from ano5 (by show (if uL 8 = true then okL (-1) l else decide (l = [])) = false; rw [if_neg (by decide)]; exact decide_eq_false hl0))
    go_wp2_with (fail)
    go_ret
    exact ⟨by rw [hfin.out]; rfl, kb.out⟩
  have p5 := Lib.hid (show fL (⟨8, fr, tt, 0, 0, sl, nu, v, l⟩ : Mg) = true from by show (if uL 8 = true then okL (-1) l else decide (l = [])) = true; rw [if_neg (by decide)]; exact decide_eq_true hl0)
  have hl2 : l.length = 0 := by rw [hl0]; rfl
  have hl1 : ¬ (0 : Int) < (l.length : Int) := by omega
  replace hl0 := Lib.hid hl0
  go_wp2_with (fail)
  by_cases hs0 : 0 ≤ sl ∧ sl ≤ 4096
  rotate_left
  · refine (rin_any sl 0 4096 _).mono ?_
    rintro e w1 ⟨rfl, rfl⟩
    rw [show inB sl 0 4096 = false from decide_eq_false hs0]
    have hfin := Lib.hid (show argOK (⟨8, fr, tt, 0, 0, sl, nu, v, l⟩ : Mg) = false from ano2 (by show (if uS 8 = true then decide (0 ≤ sl ∧ sl ≤ kSl 8) else decide (sl = 0)) = false; rw [if_pos (by decide), show kSl 8 = 4096 from by decide]; exact decide_eq_false hs0))
    go_wp2_with (fail)
    go_ret
    exact ⟨by rw [hfin.out]; rfl, kb.out⟩
  have p2 := Lib.hid (show fS (⟨8, fr, tt, 0, 0, sl, nu, v, l⟩ : Mg) = true from by show (if uS 8 = true then decide (0 ≤ sl ∧ sl ≤ kSl 8) else decide (sl = 0)) = true; rw [if_pos (by decide), show kSl 8 = 4096 from by decide]; exact decide_eq_true hs0)
  refine (rin_any sl 0 4096 _).mono ?_
  rintro e w1 ⟨rfl, rfl⟩
  rw [show inB sl 0 4096 = true from decide_eq_true hs0]
  replace hs0 := Lib.hid hs0
  go_wp2_with (fail)
  have hfin := Lib.hid (argOK_mk hhd.out p1.out p2.out p3.out p4.out p5.out)
  go_loopw [11] (fun i wr => i = .int .i64 0 ∧ wr = W1) (fun _ _ => 0)
  case atStart => exact ⟨rfl, rfl⟩
  case round =>
    revert wr
    intro W2 hrel
    obtain ⟨rfl, rfl⟩ := hrel
    go_wp2_with (fail)
    go_ret
    exact ⟨by rw [hfin.out]; rfl, kb.out⟩

set_option maxHeartbeats 32000000 in
theorem rvalid_9 (fr tt ro no sl nu : Int) (v : List UInt8) (l : List Ent) (A : Option Addr) (c : Nat) (w : World) (hE : ES w A l.length l) (hn : l.length ≤ 70368744177664) (hd : 0 ≤ fr ∧ fr ≤ 55 ∧ 0 ≤ tt ∧ tt ≤ 55 ∧ fr ≠ tt) :
    Calls Tryz.prog 51 #[.agg #[.int .i64 9, .int .i64 fr, .int .i64 tt, .int .i64 ro, .int .i64 no, .int .i64 sl, .int .i64 nu, .string (sOf v), .slice A l.length c]] w fun e w' => e = .returned (.bool (argOK ⟨9, fr, tt, ro, no, sl, nu, v, l⟩)) ∧ Below w.heap.size w w' := by
  obtain ⟨g0, g1, g2, g3, g4⟩ := hd
  obtain ⟨U, hU⟩ : ∃ U, U = w.alloc (.cells #[.int .i64 9, .int .i64 fr, .int .i64 tt, .int .i64 ro, .int .i64 no, .int .i64 sl, .int .i64 nu, .string (sOf v), .slice A l.length c] 28) := ⟨_, rfl⟩
  have kb : Below w.heap.size w U := by rw [hU]; exact (Below.refl _ w).alloc (Nat.le_refl _) _
  have hB : U.heap[w.heap.size]? = some (.cells #[.int .i64 9, .int .i64 fr, .int .i64 tt, .int .i64 ro, .int .i64 no, .int .i64 sl, .int .i64 nu, .string (sOf v), .slice A l.length c] 28 (0, 0)) := by rw [hU]; exact hpNew w _
  have hE1 := Lib.hid (SL.keep hE kb)
  have i1 := fun W => rin_any 9 1 11 W
  rw [show inB 9 1 11 = true from by decide] at i1
  have i2 := fun W => rin_any fr 0 55 W
  rw [show inB fr 0 55 = true from decide_eq_true ⟨g0, g1⟩] at i2
  have i3 := fun W => rin_any tt 0 55 W
  rw [show inB tt 0 55 = true from decide_eq_true ⟨g2, g3⟩] at i3
  have us := fun W => uses_any 9 (by decide) W
  rw [show uB 9 = false from by decide, show uS 9 = false from by decide, show uN 9 = true from by decide, show uV 9 = true from by decide, show uL 9 = false from by decide] at us
  have hhd : headOK (⟨9, fr, tt, ro, no, sl, nu, v, l⟩ : Mg) = true := by unfold headOK; dsimp only; exact decide_eq_true ⟨by omega, by omega, g0, g1, g2, g3, g4⟩
  have g5 : (fr == tt) = false := by simp [g4]
  replace kb := Lib.hid kb; replace hB := Lib.hid hB; replace hE := Lib.hid hE; replace hhd := Lib.hid hhd; clear g0 g1 g2 g3 g4
  have hUs := Lib.hid (show U.heap.size = w.heap.size + 1 from by rw [hU]; simp)
  have u0 : U.cell? ⟨w.heap.size, 0, none⟩ = some (.int .i64 9) := blkC hB.out 0
  have u1 : U.cell? ⟨w.heap.size, 1, none⟩ = some (.int .i64 fr) := blkC hB.out 1
  have u2 : U.cell? ⟨w.heap.size, 2, none⟩ = some (.int .i64 tt) := blkC hB.out 2
  have u3 : U.cell? ⟨w.heap.size, 3, none⟩ = some (.int .i64 ro) := blkC hB.out 3
  have u4 : U.cell? ⟨w.heap.size, 4, none⟩ = some (.int .i64 no) := blkC hB.out 4
  have u5 : U.cell? ⟨w.heap.size, 5, none⟩ = some (.int .i64 sl) := blkC hB.out 5
  have u6 : U.cell? ⟨w.heap.size, 6, none⟩ = some (.int .i64 nu) := blkC hB.out 6
  have u7 : U.cell? ⟨w.heap.size, 7, none⟩ = some (.string (sOf v)) := blkC hB.out 7
  have u8 : U.cell? ⟨w.heap.size, 8, none⟩ = some (.slice A l.length c) := blkC hB.out 8
  have lU := blkX hB.out
  go_enter Tryz.func51, Tryz.ntmps51
  go_wp2_with (fail)
  rw [← hU]
  clear hU
  refine (i1 _).mono ?_
  rintro e w1 ⟨rfl, rfl⟩
  go_wp2_with (fail)
  refine (i2 _).mono ?_
  rintro e w1 ⟨rfl, rfl⟩
  go_wp2_with (fail)
  refine (i3 _).mono ?_
  rintro e w1 ⟨rfl, rfl⟩
  go_wp2_with (fail)
  refine (us _).mono ?_
  rintro e w1 ⟨rfl, rfl⟩
  go_wp2_with (fail)
  clear i1 i2 i3 us g5
  refine (rgood_any ro no _).mono ?_
  rintro e W1 ⟨rfl, b1⟩
  have kb1 := Lib.hid (kb.out.trans (b1.mono kb.out.size))
  have hB1 := Lib.hid ((b1.block _ (blkX hB.out)).trans hB.out)
  have hE2 := Lib.hid (SL.keep hE1.out b1)
  clear u0 u1 u2 u3 u4 u5 u6 u7 u8 lU
  clear b1 kb hB hE1
  have kb := kb1; have hB := hB1; have hE1 := hE2; clear kb1 hB1 hE2
  have u0 : W1.cell? ⟨w.heap.size, 0, none⟩ = some (.int .i64 9) := blkC hB.out 0
  have u1 : W1.cell? ⟨w.heap.size, 1, none⟩ = some (.int .i64 fr) := blkC hB.out 1
  have u2 : W1.cell? ⟨w.heap.size, 2, none⟩ = some (.int .i64 tt) := blkC hB.out 2
  have u3 : W1.cell? ⟨w.heap.size, 3, none⟩ = some (.int .i64 ro) := blkC hB.out 3
  have u4 : W1.cell? ⟨w.heap.size, 4, none⟩ = some (.int .i64 no) := blkC hB.out 4
  have u5 : W1.cell? ⟨w.heap.size, 5, none⟩ = some (.int .i64 sl) := blkC hB.out 5
  have u6 : W1.cell? ⟨w.heap.size, 6, none⟩ = some (.int .i64 nu) := blkC hB.out 6
  have u7 : W1.cell? ⟨w.heap.size, 7, none⟩ = some (.string (sOf v)) := blkC hB.out 7
  have u8 : W1.cell? ⟨w.heap.size, 8, none⟩ = some (.slice A l.length c) := blkC hB.out 8
  have lU := blkX hB.out
  by_cases hg : goodB ro no = true
  · rw [hg]
    have hfin := Lib.hid (show argOK (⟨9, fr, tt, ro, no, sl, nu, v, l⟩ : Mg) = false from ano1 (by show (if uB 9 = true then goodB ro no else decide (ro = 0 ∧ no = 0)) = false; rw [if_neg (by decide)]; exact decide_eq_false (fun q => by rw [q.1, q.2] at hg; exact absurd hg (by decide))))
    go_wp2_with (fail)
    go_ret
    exact ⟨by rw [hfin.out]; rfl, kb.out⟩
  rw [eq_false_of_ne_true hg]
  by_cases hr0 : ro = 0
  rotate_left
  · have hr1 : (ro == 0) = false := by simp [hr0]
    have hfin := Lib.hid (show argOK (⟨9, fr, tt, ro, no, sl, nu, v, l⟩ : Mg) = false from ano1 (by show (if uB 9 = true then goodB ro no else decide (ro = 0 ∧ no = 0)) = false; rw [if_neg (by decide)]; exact decide_eq_false (fun q => hr0 q.1)))
    go_wp2_with (fail)
    go_ret
    exact ⟨by rw [hfin.out]; rfl, kb.out⟩
  subst hr0
  by_cases hr0 : no = 0
  rotate_left
  · have hr1 : (no == 0) = false := by simp [hr0]
    have hfin := Lib.hid (show argOK (⟨9, fr, tt, 0, no, sl, nu, v, l⟩ : Mg) = false from ano1 (by show (if uB 9 = true then goodB 0 no else decide ((0 : Int) = 0 ∧ no = 0)) = false; rw [if_neg (by decide)]; exact decide_eq_false (fun q => hr0 q.2)))
    go_wp2_with (fail)
    go_ret
    exact ⟨by rw [hfin.out]; rfl, kb.out⟩
  subst hr0
  have p1 := Lib.hid (show fB (⟨9, fr, tt, 0, 0, sl, nu, v, l⟩ : Mg) = true from by show (if uB 9 = true then goodB 0 0 else decide ((0 : Int) = 0 ∧ (0 : Int) = 0)) = true; rw [if_neg (by decide)]; rfl)
  replace hg := Lib.hid hg
  by_cases hs0 : sl = 0
  rotate_left
  · have hs1 : (sl == 0) = false := by simp [hs0]
    have hfin := Lib.hid (show argOK (⟨9, fr, tt, 0, 0, sl, nu, v, l⟩ : Mg) = false from ano2 (by show (if uS 9 = true then decide (0 ≤ sl ∧ sl ≤ kSl 9) else decide (sl = 0)) = false; rw [if_neg (by decide)]; exact decide_eq_false hs0))
    go_wp2_with (fail)
    go_ret
    exact ⟨by rw [hfin.out]; rfl, kb.out⟩
  have p2 := Lib.hid (show fS (⟨9, fr, tt, 0, 0, sl, nu, v, l⟩ : Mg) = true from by show (if uS 9 = true then decide (0 ≤ sl ∧ sl ≤ kSl 9) else decide (sl = 0)) = true; rw [if_neg (by decide)]; exact decide_eq_true hs0)
  have hs1 : (sl == 0) = true := by simp [hs0]
  replace hs0 := Lib.hid hs0
  have p4 := Lib.hid (show fV (⟨9, fr, tt, 0, 0, sl, nu, v, l⟩ : Mg) = true from by show (if uV 9 = true then true else decide (v = [])) = true; rw [if_pos (by decide)])
  by_cases hl0 : l = []
  rotate_left
  · have hl1 : (0 : Int) < (l.length : Int) := by have := List.length_pos_iff.2 hl0; omega
    have hfin := Lib.hid (show argOK (⟨9, fr, tt, 0, 0, sl, nu, v, l⟩ : Mg) = false from ano5 (by show (if uL 9 = true then okL (-1) l else decide (l = [])) = false; rw [if_neg (by decide)]; exact decide_eq_false hl0))
    go_wp2_with (fail)
    go_ret
    exact ⟨by rw [hfin.out]; rfl, kb.out⟩
  have p5 := Lib.hid (show fL (⟨9, fr, tt, 0, 0, sl, nu, v, l⟩ : Mg) = true from by show (if uL 9 = true then okL (-1) l else decide (l = [])) = true; rw [if_neg (by decide)]; exact decide_eq_true hl0)
  have hl2 : l.length = 0 := by rw [hl0]; rfl
  have hl1 : ¬ (0 : Int) < (l.length : Int) := by omega
  replace hl0 := Lib.hid hl0
  go_wp2_with (fail)
  by_cases hn0 : 1 ≤ nu ∧ nu ≤ 4096
  rotate_left
  · refine (rin_any nu 1 4096 _).mono ?_
    rintro e w1 ⟨rfl, rfl⟩
    rw [show inB nu 1 4096 = false from decide_eq_false hn0]
    have hfin := Lib.hid (show argOK (⟨9, fr, tt, 0, 0, sl, nu, v, l⟩ : Mg) = false from ano3 (by show (if uN 9 = true then decide (kLo 9 ≤ nu ∧ nu ≤ kHi 9) else decide (nu = 0)) = false; rw [if_pos (by decide), show kLo 9 = 1 from by decide, show kHi 9 = 4096 from by decide]; exact decide_eq_false hn0))
    go_wp2_with (fail)
    go_ret
    exact ⟨by rw [hfin.out]; rfl, kb.out⟩
  have p3 := Lib.hid (show fN (⟨9, fr, tt, 0, 0, sl, nu, v, l⟩ : Mg) = true from by show (if uN 9 = true then decide (kLo 9 ≤ nu ∧ nu ≤ kHi 9) else decide (nu = 0)) = true; rw [if_pos (by decide), show kLo 9 = 1 from by decide, show kHi 9 = 4096 from by decide]; exact decide_eq_true hn0)
  refine (rin_any nu 1 4096 _).mono ?_
  rintro e w1 ⟨rfl, rfl⟩
  rw [show inB nu 1 4096 = true from decide_eq_true hn0]
  replace hn0 := Lib.hid hn0
  go_wp2_with (fail)
  have hfin := Lib.hid (argOK_mk hhd.out p1.out p2.out p3.out p4.out p5.out)
  go_loopw [11] (fun i wr => i = .int .i64 0 ∧ wr = W1) (fun _ _ => 0)
  case atStart => exact ⟨rfl, rfl⟩
  case round =>
    revert wr
    intro W2 hrel
    obtain ⟨rfl, rfl⟩ := hrel
    go_wp2_with (fail)
    go_ret
    exact ⟨by rw [hfin.out]; rfl, kb.out⟩
end Go.Proofs.YtlinjanflenljaaGreatDoor

namespace Go.Proofs.YtlinjanflenljaaGreatDoor
open Go.RowKit
set_option linter.unusedSimpArgs false
set_option linter.unusedVariables false
set_option linter.unusedSectionVars false
set_option maxRecDepth 10000
set_option maxHeartbeats 32000000 in
theorem rvalid_10 (fr tt ro no sl nu : Int) (v : List UInt8) (l : List Ent) (A : Option Addr) (c : Nat) (w : World) (hE : ES w A l.length l) (hn : l.length ≤ 70368744177664) (hd : 0 ≤ fr ∧ fr ≤ 55 ∧ 0 ≤ tt ∧ tt ≤ 55 ∧ fr ≠ tt) :
    Calls Tryz.prog 51 #[.agg #[.int .i64 10, .int .i64 fr, .int .i64 tt, .int .i64 ro, .int .i64 no, .int .i64 sl, .int .i64 nu, .string (sOf v), .slice A l.length c]] w fun e w' => e = .returned (.bool (argOK ⟨10, fr, tt, ro, no, sl, nu, v, l⟩)) ∧ Below w.heap.size w w' := by
  obtain ⟨g0, g1, g2, g3, g4⟩ := hd
  obtain ⟨U, hU⟩ : ∃ U, U = w.alloc (.cells #[.int .i64 10, .int .i64 fr, .int .i64 tt, .int .i64 ro, .int .i64 no, .int .i64 sl, .int .i64 nu, .string (sOf v), .slice A l.length c] 28) := ⟨_, rfl⟩
  have kb : Below w.heap.size w U := by rw [hU]; exact (Below.refl _ w).alloc (Nat.le_refl _) _
  have hB : U.heap[w.heap.size]? = some (.cells #[.int .i64 10, .int .i64 fr, .int .i64 tt, .int .i64 ro, .int .i64 no, .int .i64 sl, .int .i64 nu, .string (sOf v), .slice A l.length c] 28 (0, 0)) := by rw [hU]; exact hpNew w _
  have hE1 := Lib.hid (SL.keep hE kb)
  have i1 := fun W => rin_any 10 1 11 W
  rw [show inB 10 1 11 = true from by decide] at i1
  have i2 := fun W => rin_any fr 0 55 W
  rw [show inB fr 0 55 = true from decide_eq_true ⟨g0, g1⟩] at i2
  have i3 := fun W => rin_any tt 0 55 W
  rw [show inB tt 0 55 = true from decide_eq_true ⟨g2, g3⟩] at i3
  have us := fun W => uses_any 10 (by decide) W
  rw [show uB 10 = false from by decide, show uS 10 = false from by decide, show uN 10 = true from by decide, show uV 10 = true from by decide, show uL 10 = false from by decide] at us
  have hhd : headOK (⟨10, fr, tt, ro, no, sl, nu, v, l⟩ : Mg) = true := by unfold headOK; dsimp only; exact decide_eq_true ⟨by omega, by omega, g0, g1, g2, g3, g4⟩
  have g5 : (fr == tt) = false := by simp [g4]
  replace kb := Lib.hid kb; replace hB := Lib.hid hB; replace hE := Lib.hid hE; replace hhd := Lib.hid hhd; clear g0 g1 g2 g3 g4
  have hUs := Lib.hid (show U.heap.size = w.heap.size + 1 from by rw [hU]; simp)
  have u0 : U.cell? ⟨w.heap.size, 0, none⟩ = some (.int .i64 10) := blkC hB.out 0
  have u1 : U.cell? ⟨w.heap.size, 1, none⟩ = some (.int .i64 fr) := blkC hB.out 1
  have u2 : U.cell? ⟨w.heap.size, 2, none⟩ = some (.int .i64 tt) := blkC hB.out 2
  have u3 : U.cell? ⟨w.heap.size, 3, none⟩ = some (.int .i64 ro) := blkC hB.out 3
  have u4 : U.cell? ⟨w.heap.size, 4, none⟩ = some (.int .i64 no) := blkC hB.out 4
  have u5 : U.cell? ⟨w.heap.size, 5, none⟩ = some (.int .i64 sl) := blkC hB.out 5
  have u6 : U.cell? ⟨w.heap.size, 6, none⟩ = some (.int .i64 nu) := blkC hB.out 6
  have u7 : U.cell? ⟨w.heap.size, 7, none⟩ = some (.string (sOf v)) := blkC hB.out 7
  have u8 : U.cell? ⟨w.heap.size, 8, none⟩ = some (.slice A l.length c) := blkC hB.out 8
  have lU := blkX hB.out
  go_enter Tryz.func51, Tryz.ntmps51
  go_wp2_with (fail)
  rw [← hU]
  clear hU
  refine (i1 _).mono ?_
  rintro e w1 ⟨rfl, rfl⟩
  go_wp2_with (fail)
  refine (i2 _).mono ?_
  rintro e w1 ⟨rfl, rfl⟩
  go_wp2_with (fail)
  refine (i3 _).mono ?_
  rintro e w1 ⟨rfl, rfl⟩
  go_wp2_with (fail)
  refine (us _).mono ?_
  rintro e w1 ⟨rfl, rfl⟩
  go_wp2_with (fail)
  clear i1 i2 i3 us g5
  refine (rgood_any ro no _).mono ?_
  rintro e W1 ⟨rfl, b1⟩
  have kb1 := Lib.hid (kb.out.trans (b1.mono kb.out.size))
  have hB1 := Lib.hid ((b1.block _ (blkX hB.out)).trans hB.out)
  have hE2 := Lib.hid (SL.keep hE1.out b1)
  clear u0 u1 u2 u3 u4 u5 u6 u7 u8 lU
  clear b1 kb hB hE1
  have kb := kb1; have hB := hB1; have hE1 := hE2; clear kb1 hB1 hE2
  have u0 : W1.cell? ⟨w.heap.size, 0, none⟩ = some (.int .i64 10) := blkC hB.out 0
  have u1 : W1.cell? ⟨w.heap.size, 1, none⟩ = some (.int .i64 fr) := blkC hB.out 1
  have u2 : W1.cell? ⟨w.heap.size, 2, none⟩ = some (.int .i64 tt) := blkC hB.out 2
  have u3 : W1.cell? ⟨w.heap.size, 3, none⟩ = some (.int .i64 ro) := blkC hB.out 3
  have u4 : W1.cell? ⟨w.heap.size, 4, none⟩ = some (.int .i64 no) := blkC hB.out 4
  have u5 : W1.cell? ⟨w.heap.size, 5, none⟩ = some (.int .i64 sl) := blkC hB.out 5
  have u6 : W1.cell? ⟨w.heap.size, 6, none⟩ = some (.int .i64 nu) := blkC hB.out 6
  have u7 : W1.cell? ⟨w.heap.size, 7, none⟩ = some (.string (sOf v)) := blkC hB.out 7
  have u8 : W1.cell? ⟨w.heap.size, 8, none⟩ = some (.slice A l.length c) := blkC hB.out 8
  have lU := blkX hB.out
  by_cases hg : goodB ro no = true
  · rw [hg]
    have hfin := Lib.hid (show argOK (⟨10, fr, tt, ro, no, sl, nu, v, l⟩ : Mg) = false from ano1 (by show (if uB 10 = true then goodB ro no else decide (ro = 0 ∧ no = 0)) = false; rw [if_neg (by decide)]; exact decide_eq_false (fun q => by rw [q.1, q.2] at hg; exact absurd hg (by decide))))
    go_wp2_with (fail)
    go_ret
    exact ⟨by rw [hfin.out]; rfl, kb.out⟩
  rw [eq_false_of_ne_true hg]
  by_cases hr0 : ro = 0
  rotate_left
  · have hr1 : (ro == 0) = false := by simp [hr0]
    have hfin := Lib.hid (show argOK (⟨10, fr, tt, ro, no, sl, nu, v, l⟩ : Mg) = false from ano1 (by show (if uB 10 = true then goodB ro no else decide (ro = 0 ∧ no = 0)) = false; rw [if_neg (by decide)]; exact decide_eq_false (fun q => hr0 q.1)))
    go_wp2_with (fail)
    go_ret
    exact ⟨by rw [hfin.out]; rfl, kb.out⟩
  subst hr0
  by_cases hr0 : no = 0
  rotate_left
  · have hr1 : (no == 0) = false := by simp [hr0]
    have hfin := Lib.hid (show argOK (⟨10, fr, tt, 0, no, sl, nu, v, l⟩ : Mg) = false from ano1 (by show (if uB 10 = true then goodB 0 no else decide ((0 : Int) = 0 ∧ no = 0)) = false; rw [if_neg (by decide)]; exact decide_eq_false (fun q => hr0 q.2)))
    go_wp2_with (fail)
    go_ret
    exact ⟨by rw [hfin.out]; rfl, kb.out⟩
  subst hr0
  have p1 := Lib.hid (show fB (⟨10, fr, tt, 0, 0, sl, nu, v, l⟩ : Mg) = true from by show (if uB 10 = true then goodB 0 0 else decide ((0 : Int) = 0 ∧ (0 : Int) = 0)) = true; rw [if_neg (by decide)]; rfl)
  replace hg := Lib.hid hg
  by_cases hs0 : sl = 0
  rotate_left
  · have hs1 : (sl == 0) = false := by simp [hs0]
    have hfin := Lib.hid (show argOK (⟨10, fr, tt, 0, 0, sl, nu, v, l⟩ : Mg) = false from ano2 (by show (if uS 10 = true then decide (0 ≤ sl ∧ sl ≤ kSl 10) else decide (sl = 0)) = false; rw [if_neg (by decide)]; exact decide_eq_false hs0))
    go_wp2_with (fail)
    go_ret
    exact ⟨by rw [hfin.out]; rfl, kb.out⟩
  have p2 := Lib.hid (show fS (⟨10, fr, tt, 0, 0, sl, nu, v, l⟩ : Mg) = true from by show (if uS 10 = true then decide (0 ≤ sl ∧ sl ≤ kSl 10) else decide (sl = 0)) = true; rw [if_neg (by decide)]; exact decide_eq_true hs0)
  have hs1 : (sl == 0) = true := by simp [hs0]
  replace hs0 := Lib.hid hs0
  have p4 := Lib.hid (show fV (⟨10, fr, tt, 0, 0, sl, nu, v, l⟩ : Mg) = true from by show (if uV 10 = true then true else decide (v = [])) = true; rw [if_pos (by decide)])
  by_cases hl0 : l = []
  rotate_left
  · have hl1 : (0 : Int) < (l.length : Int) := by have := List.length_pos_iff.2 hl0; omega
    have hfin := Lib.hid (show argOK (⟨10, fr, tt, 0, 0, sl, nu, v, l⟩ : Mg) = false from ano5 (by show (if uL 10 = true then okL (-1) l else decide (l = [])) = false; rw [if_neg (by decide)]; exact decide_eq_false hl0))
    go_wp2_with (fail)
    go_ret
    exact ⟨by rw [hfin.out]; rfl, kb.out⟩
  have p5 := Lib.hid (show fL (⟨10, fr, tt, 0, 0, sl, nu, v, l⟩ : Mg) = true from by show (if uL 10 = true then okL (-1) l else decide (l = [])) = true; rw [if_neg (by decide)]; exact decide_eq_true hl0)
  have hl2 : l.length = 0 := by rw [hl0]; rfl
  have hl1 : ¬ (0 : Int) < (l.length : Int) := by omega
  replace hl0 := Lib.hid hl0
  go_wp2_with (fail)
  by_cases hn0 : 1 ≤ nu ∧ nu ≤ 2147483647
  rotate_left
  · refine (rin_any nu 1 2147483647 _).mono ?_
    rintro e w1 ⟨rfl, rfl⟩
    rw [show inB nu 1 2147483647 = false from decide_eq_false hn0]
    have hfin := Lib.hid (show argOK (⟨10, fr, tt, 0, 0, sl, nu, v, l⟩ : Mg) = false from ano3 (by show (if uN 10 = true then decide (kLo 10 ≤ nu ∧ nu ≤ kHi 10) else decide (nu = 0)) = false; rw [if_pos (by decide), show kLo 10 = 1 from by decide, show kHi 10 = 2147483647 from by decide]; exact decide_eq_false hn0))
    go_wp2_with (fail)
    go_ret
    exact ⟨by rw [hfin.out]; rfl, kb.out⟩
  have p3 := Lib.hid (show fN (⟨10, fr, tt, 0, 0, sl, nu, v, l⟩ : Mg) = true from by show (if uN 10 = true then decide (kLo 10 ≤ nu ∧ nu ≤ kHi 10) else decide (nu = 0)) = true; rw [if_pos (by decide), show kLo 10 = 1 from by decide, show kHi 10 = 2147483647 from by decide]; exact decide_eq_true hn0)
  refine (rin_any nu 1 2147483647 _).mono ?_
  rintro e w1 ⟨rfl, rfl⟩
  rw [show inB nu 1 2147483647 = true from decide_eq_true hn0]
  replace hn0 := Lib.hid hn0
  go_wp2_with (fail)
  have hfin := Lib.hid (argOK_mk hhd.out p1.out p2.out p3.out p4.out p5.out)
  go_loopw [11] (fun i wr => i = .int .i64 0 ∧ wr = W1) (fun _ _ => 0)
  case atStart => exact ⟨rfl, rfl⟩
  case round =>
    revert wr
    intro W2 hrel
    obtain ⟨rfl, rfl⟩ := hrel
    go_wp2_with (fail)
    go_ret
    exact ⟨by rw [hfin.out]; rfl, kb.out⟩

set_option maxHeartbeats 32000000 in
theorem rvalid_11 (fr tt ro no sl nu : Int) (v : List UInt8) (l : List Ent) (A : Option Addr) (c : Nat) (w : World) (hE : ES w A l.length l) (hn : l.length ≤ 70368744177664) (hd : 0 ≤ fr ∧ fr ≤ 55 ∧ 0 ≤ tt ∧ tt ≤ 55 ∧ fr ≠ tt) :
    Calls Tryz.prog 51 #[.agg #[.int .i64 11, .int .i64 fr, .int .i64 tt, .int .i64 ro, .int .i64 no, .int .i64 sl, .int .i64 nu, .string (sOf v), .slice A l.length c]] w fun e w' => e = .returned (.bool (argOK ⟨11, fr, tt, ro, no, sl, nu, v, l⟩)) ∧ Below w.heap.size w w' := by
  obtain ⟨g0, g1, g2, g3, g4⟩ := hd
  obtain ⟨U, hU⟩ : ∃ U, U = w.alloc (.cells #[.int .i64 11, .int .i64 fr, .int .i64 tt, .int .i64 ro, .int .i64 no, .int .i64 sl, .int .i64 nu, .string (sOf v), .slice A l.length c] 28) := ⟨_, rfl⟩
  have kb : Below w.heap.size w U := by rw [hU]; exact (Below.refl _ w).alloc (Nat.le_refl _) _
  have hB : U.heap[w.heap.size]? = some (.cells #[.int .i64 11, .int .i64 fr, .int .i64 tt, .int .i64 ro, .int .i64 no, .int .i64 sl, .int .i64 nu, .string (sOf v), .slice A l.length c] 28 (0, 0)) := by rw [hU]; exact hpNew w _
  have hE1 := Lib.hid (SL.keep hE kb)
  have i1 := fun W => rin_any 11 1 11 W
  rw [show inB 11 1 11 = true from by decide] at i1
  have i2 := fun W => rin_any fr 0 55 W
  rw [show inB fr 0 55 = true from decide_eq_true ⟨g0, g1⟩] at i2
  have i3 := fun W => rin_any tt 0 55 W
  rw [show inB tt 0 55 = true from decide_eq_true ⟨g2, g3⟩] at i3
  have us := fun W => uses_any 11 (by decide) W
  rw [show uB 11 = false from by decide, show uS 11 = false from by decide, show uN 11 = true from by decide, show uV 11 = true from by decide, show uL 11 = false from by decide] at us
  have hhd : headOK (⟨11, fr, tt, ro, no, sl, nu, v, l⟩ : Mg) = true := by unfold headOK; dsimp only; exact decide_eq_true ⟨by omega, by omega, g0, g1, g2, g3, g4⟩
  have g5 : (fr == tt) = false := by simp [g4]
  replace kb := Lib.hid kb; replace hB := Lib.hid hB; replace hE := Lib.hid hE; replace hhd := Lib.hid hhd; clear g0 g1 g2 g3 g4
  have hUs := Lib.hid (show U.heap.size = w.heap.size + 1 from by rw [hU]; simp)
  have u0 : U.cell? ⟨w.heap.size, 0, none⟩ = some (.int .i64 11) := blkC hB.out 0
  have u1 : U.cell? ⟨w.heap.size, 1, none⟩ = some (.int .i64 fr) := blkC hB.out 1
  have u2 : U.cell? ⟨w.heap.size, 2, none⟩ = some (.int .i64 tt) := blkC hB.out 2
  have u3 : U.cell? ⟨w.heap.size, 3, none⟩ = some (.int .i64 ro) := blkC hB.out 3
  have u4 : U.cell? ⟨w.heap.size, 4, none⟩ = some (.int .i64 no) := blkC hB.out 4
  have u5 : U.cell? ⟨w.heap.size, 5, none⟩ = some (.int .i64 sl) := blkC hB.out 5
  have u6 : U.cell? ⟨w.heap.size, 6, none⟩ = some (.int .i64 nu) := blkC hB.out 6
  have u7 : U.cell? ⟨w.heap.size, 7, none⟩ = some (.string (sOf v)) := blkC hB.out 7
  have u8 : U.cell? ⟨w.heap.size, 8, none⟩ = some (.slice A l.length c) := blkC hB.out 8
  have lU := blkX hB.out
  go_enter Tryz.func51, Tryz.ntmps51
  go_wp2_with (fail)
  rw [← hU]
  clear hU
  refine (i1 _).mono ?_
  rintro e w1 ⟨rfl, rfl⟩
  go_wp2_with (fail)
  refine (i2 _).mono ?_
  rintro e w1 ⟨rfl, rfl⟩
  go_wp2_with (fail)
  refine (i3 _).mono ?_
  rintro e w1 ⟨rfl, rfl⟩
  go_wp2_with (fail)
  refine (us _).mono ?_
  rintro e w1 ⟨rfl, rfl⟩
  go_wp2_with (fail)
  clear i1 i2 i3 us g5
  refine (rgood_any ro no _).mono ?_
  rintro e W1 ⟨rfl, b1⟩
  have kb1 := Lib.hid (kb.out.trans (b1.mono kb.out.size))
  have hB1 := Lib.hid ((b1.block _ (blkX hB.out)).trans hB.out)
  have hE2 := Lib.hid (SL.keep hE1.out b1)
  clear u0 u1 u2 u3 u4 u5 u6 u7 u8 lU
  clear b1 kb hB hE1
  have kb := kb1; have hB := hB1; have hE1 := hE2; clear kb1 hB1 hE2
  have u0 : W1.cell? ⟨w.heap.size, 0, none⟩ = some (.int .i64 11) := blkC hB.out 0
  have u1 : W1.cell? ⟨w.heap.size, 1, none⟩ = some (.int .i64 fr) := blkC hB.out 1
  have u2 : W1.cell? ⟨w.heap.size, 2, none⟩ = some (.int .i64 tt) := blkC hB.out 2
  have u3 : W1.cell? ⟨w.heap.size, 3, none⟩ = some (.int .i64 ro) := blkC hB.out 3
  have u4 : W1.cell? ⟨w.heap.size, 4, none⟩ = some (.int .i64 no) := blkC hB.out 4
  have u5 : W1.cell? ⟨w.heap.size, 5, none⟩ = some (.int .i64 sl) := blkC hB.out 5
  have u6 : W1.cell? ⟨w.heap.size, 6, none⟩ = some (.int .i64 nu) := blkC hB.out 6
  have u7 : W1.cell? ⟨w.heap.size, 7, none⟩ = some (.string (sOf v)) := blkC hB.out 7
  have u8 : W1.cell? ⟨w.heap.size, 8, none⟩ = some (.slice A l.length c) := blkC hB.out 8
  have lU := blkX hB.out
  by_cases hg : goodB ro no = true
  · rw [hg]
    have hfin := Lib.hid (show argOK (⟨11, fr, tt, ro, no, sl, nu, v, l⟩ : Mg) = false from ano1 (by show (if uB 11 = true then goodB ro no else decide (ro = 0 ∧ no = 0)) = false; rw [if_neg (by decide)]; exact decide_eq_false (fun q => by rw [q.1, q.2] at hg; exact absurd hg (by decide))))
    go_wp2_with (fail)
    go_ret
    exact ⟨by rw [hfin.out]; rfl, kb.out⟩
  rw [eq_false_of_ne_true hg]
  by_cases hr0 : ro = 0
  rotate_left
  · have hr1 : (ro == 0) = false := by simp [hr0]
    have hfin := Lib.hid (show argOK (⟨11, fr, tt, ro, no, sl, nu, v, l⟩ : Mg) = false from ano1 (by show (if uB 11 = true then goodB ro no else decide (ro = 0 ∧ no = 0)) = false; rw [if_neg (by decide)]; exact decide_eq_false (fun q => hr0 q.1)))
    go_wp2_with (fail)
    go_ret
    exact ⟨by rw [hfin.out]; rfl, kb.out⟩
  subst hr0
  by_cases hr0 : no = 0
  rotate_left
  · have hr1 : (no == 0) = false := by simp [hr0]
    have hfin := Lib.hid (show argOK (⟨11, fr, tt, 0, no, sl, nu, v, l⟩ : Mg) = false from ano1 (by show (if uB 11 = true then goodB 0 no else decide ((0 : Int) = 0 ∧ no = 0)) = false; rw [if_neg (by decide)]; exact decide_eq_false (fun q => hr0 q.2)))
    go_wp2_with (fail)
    go_ret
    exact ⟨by rw [hfin.out]; rfl, kb.out⟩
  subst hr0
  have p1 := Lib.hid (show fB (⟨11, fr, tt, 0, 0, sl, nu, v, l⟩ : Mg) = true from by show (if uB 11 = true then goodB 0 0 else decide ((0 : Int) = 0 ∧ (0 : Int) = 0)) = true; rw [if_neg (by decide)]; rfl)
  replace hg := Lib.hid hg
  by_cases hs0 : sl = 0
  rotate_left
  · have hs1 : (sl == 0) = false := by simp [hs0]
    have hfin := Lib.hid (show argOK (⟨11, fr, tt, 0, 0, sl, nu, v, l⟩ : Mg) = false from ano2 (by show (if uS 11 = true then decide (0 ≤ sl ∧ sl ≤ kSl 11) else decide (sl = 0)) = false; rw [if_neg (by decide)]; exact decide_eq_false hs0))
    go_wp2_with (fail)
    go_ret
    exact ⟨by rw [hfin.out]; rfl, kb.out⟩
  have p2 := Lib.hid (show fS (⟨11, fr, tt, 0, 0, sl, nu, v, l⟩ : Mg) = true from by show (if uS 11 = true then decide (0 ≤ sl ∧ sl ≤ kSl 11) else decide (sl = 0)) = true; rw [if_neg (by decide)]; exact decide_eq_true hs0)
  have hs1 : (sl == 0) = true := by simp [hs0]
  replace hs0 := Lib.hid hs0
  have p4 := Lib.hid (show fV (⟨11, fr, tt, 0, 0, sl, nu, v, l⟩ : Mg) = true from by show (if uV 11 = true then true else decide (v = [])) = true; rw [if_pos (by decide)])
  by_cases hl0 : l = []
  rotate_left
  · have hl1 : (0 : Int) < (l.length : Int) := by have := List.length_pos_iff.2 hl0; omega
    have hfin := Lib.hid (show argOK (⟨11, fr, tt, 0, 0, sl, nu, v, l⟩ : Mg) = false from ano5 (by show (if uL 11 = true then okL (-1) l else decide (l = [])) = false; rw [if_neg (by decide)]; exact decide_eq_false hl0))
    go_wp2_with (fail)
    go_ret
    exact ⟨by rw [hfin.out]; rfl, kb.out⟩
  have p5 := Lib.hid (show fL (⟨11, fr, tt, 0, 0, sl, nu, v, l⟩ : Mg) = true from by show (if uL 11 = true then okL (-1) l else decide (l = [])) = true; rw [if_neg (by decide)]; exact decide_eq_true hl0)
  have hl2 : l.length = 0 := by rw [hl0]; rfl
  have hl1 : ¬ (0 : Int) < (l.length : Int) := by omega
  replace hl0 := Lib.hid hl0
  go_wp2_with (fail)
  by_cases hn0 : 1 ≤ nu ∧ nu ≤ 2147483647
  rotate_left
  · refine (rin_any nu 1 2147483647 _).mono ?_
    rintro e w1 ⟨rfl, rfl⟩
    rw [show inB nu 1 2147483647 = false from decide_eq_false hn0]
    have hfin := Lib.hid (show argOK (⟨11, fr, tt, 0, 0, sl, nu, v, l⟩ : Mg) = false from ano3 (by show (if uN 11 = true then decide (kLo 11 ≤ nu ∧ nu ≤ kHi 11) else decide (nu = 0)) = false; rw [if_pos (by decide), show kLo 11 = 1 from by decide, show kHi 11 = 2147483647 from by decide]; exact decide_eq_false hn0))
    go_wp2_with (fail)
    go_ret
    exact ⟨by rw [hfin.out]; rfl, kb.out⟩
  have p3 := Lib.hid (show fN (⟨11, fr, tt, 0, 0, sl, nu, v, l⟩ : Mg) = true from by show (if uN 11 = true then decide (kLo 11 ≤ nu ∧ nu ≤ kHi 11) else decide (nu = 0)) = true; rw [if_pos (by decide), show kLo 11 = 1 from by decide, show kHi 11 = 2147483647 from by decide]; exact decide_eq_true hn0)
  refine (rin_any nu 1 2147483647 _).mono ?_
  rintro e w1 ⟨rfl, rfl⟩
  rw [show inB nu 1 2147483647 = true from decide_eq_true hn0]
  replace hn0 := Lib.hid hn0
  go_wp2_with (fail)
  have hfin := Lib.hid (argOK_mk hhd.out p1.out p2.out p3.out p4.out p5.out)
  go_loopw [11] (fun i wr => i = .int .i64 0 ∧ wr = W1) (fun _ _ => 0)
  case atStart => exact ⟨rfl, rfl⟩
  case round =>
    revert wr
    intro W2 hrel
    obtain ⟨rfl, rfl⟩ := hrel
    go_wp2_with (fail)
    go_ret
    exact ⟨by rw [hfin.out]; rfl, kb.out⟩
end Go.Proofs.YtlinjanflenljaaGreatDoor

namespace Go.Proofs.YtlinjanflenljaaGreatDoor
open Go.RowKit
set_option linter.unusedSimpArgs false
set_option linter.unusedVariables false
set_option linter.unusedSectionVars false
set_option maxRecDepth 10000
set_option maxHeartbeats 32000000 in
theorem rvalid_2 (fr tt ro no sl nu : Int) (v : List UInt8) (l : List Ent) (A : Option Addr) (c : Nat) (w : World) (hE : ES w A l.length l) (hn : l.length ≤ 70368744177664) (hd : 0 ≤ fr ∧ fr ≤ 55 ∧ 0 ≤ tt ∧ tt ≤ 55 ∧ fr ≠ tt) :
    Calls Tryz.prog 51 #[.agg #[.int .i64 2, .int .i64 fr, .int .i64 tt, .int .i64 ro, .int .i64 no, .int .i64 sl, .int .i64 nu, .string (sOf v), .slice A l.length c]] w fun e w' => e = .returned (.bool (argOK ⟨2, fr, tt, ro, no, sl, nu, v, l⟩)) ∧ Below w.heap.size w w' := by
  obtain ⟨g0, g1, g2, g3, g4⟩ := hd
  obtain ⟨U, hU⟩ : ∃ U, U = w.alloc (.cells #[.int .i64 2, .int .i64 fr, .int .i64 tt, .int .i64 ro, .int .i64 no, .int .i64 sl, .int .i64 nu, .string (sOf v), .slice A l.length c] 28) := ⟨_, rfl⟩
  have kb : Below w.heap.size w U := by rw [hU]; exact (Below.refl _ w).alloc (Nat.le_refl _) _
  have hB : U.heap[w.heap.size]? = some (.cells #[.int .i64 2, .int .i64 fr, .int .i64 tt, .int .i64 ro, .int .i64 no, .int .i64 sl, .int .i64 nu, .string (sOf v), .slice A l.length c] 28 (0, 0)) := by rw [hU]; exact hpNew w _
  have hE1 := Lib.hid (SL.keep hE kb)
  have i1 := fun W => rin_any 2 1 11 W
  rw [show inB 2 1 11 = true from by decide] at i1
  have i2 := fun W => rin_any fr 0 55 W
  rw [show inB fr 0 55 = true from decide_eq_true ⟨g0, g1⟩] at i2
  have i3 := fun W => rin_any tt 0 55 W
  rw [show inB tt 0 55 = true from decide_eq_true ⟨g2, g3⟩] at i3
  have us := fun W => uses_any 2 (by decide) W
  rw [show uB 2 = true from by decide, show uS 2 = false from by decide, show uN 2 = true from by decide, show uV 2 = false from by decide, show uL 2 = true from by decide] at us
  have hhd : headOK (⟨2, fr, tt, ro, no, sl, nu, v, l⟩ : Mg) = true := by unfold headOK; dsimp only; exact decide_eq_true ⟨by omega, by omega, g0, g1, g2, g3, g4⟩
  have g5 : (fr == tt) = false := by simp [g4]
  replace kb := Lib.hid kb; replace hB := Lib.hid hB; replace hE := Lib.hid hE; replace hhd := Lib.hid hhd; clear g0 g1 g2 g3 g4
  have hUs := Lib.hid (show U.heap.size = w.heap.size + 1 from by rw [hU]; simp)
  have u0 : U.cell? ⟨w.heap.size, 0, none⟩ = some (.int .i64 2) := blkC hB.out 0
  have u1 : U.cell? ⟨w.heap.size, 1, none⟩ = some (.int .i64 fr) := blkC hB.out 1
  have u2 : U.cell? ⟨w.heap.size, 2, none⟩ = some (.int .i64 tt) := blkC hB.out 2
  have u3 : U.cell? ⟨w.heap.size, 3, none⟩ = some (.int .i64 ro) := blkC hB.out 3
  have u4 : U.cell? ⟨w.heap.size, 4, none⟩ = some (.int .i64 no) := blkC hB.out 4
  have u5 : U.cell? ⟨w.heap.size, 5, none⟩ = some (.int .i64 sl) := blkC hB.out 5
  have u6 : U.cell? ⟨w.heap.size, 6, none⟩ = some (.int .i64 nu) := blkC hB.out 6
  have u7 : U.cell? ⟨w.heap.size, 7, none⟩ = some (.string (sOf v)) := blkC hB.out 7
  have u8 : U.cell? ⟨w.heap.size, 8, none⟩ = some (.slice A l.length c) := blkC hB.out 8
  have lU := blkX hB.out
  go_enter Tryz.func51, Tryz.ntmps51
  go_wp2_with (fail)
  rw [← hU]
  clear hU
  refine (i1 _).mono ?_
  rintro e w1 ⟨rfl, rfl⟩
  go_wp2_with (fail)
  refine (i2 _).mono ?_
  rintro e w1 ⟨rfl, rfl⟩
  go_wp2_with (fail)
  refine (i3 _).mono ?_
  rintro e w1 ⟨rfl, rfl⟩
  go_wp2_with (fail)
  refine (us _).mono ?_
  rintro e w1 ⟨rfl, rfl⟩
  go_wp2_with (fail)
  clear i1 i2 i3 us g5
  refine (rgood_any ro no _).mono ?_
  rintro e W1 ⟨rfl, b1⟩
  have kb1 := Lib.hid (kb.out.trans (b1.mono kb.out.size))
  have hB1 := Lib.hid ((b1.block _ (blkX hB.out)).trans hB.out)
  have hE2 := Lib.hid (SL.keep hE1.out b1)
  clear u0 u1 u2 u3 u4 u5 u6 u7 u8 lU
  clear b1 kb hB hE1
  have kb := kb1; have hB := hB1; have hE1 := hE2; clear kb1 hB1 hE2
  have u0 : W1.cell? ⟨w.heap.size, 0, none⟩ = some (.int .i64 2) := blkC hB.out 0
  have u1 : W1.cell? ⟨w.heap.size, 1, none⟩ = some (.int .i64 fr) := blkC hB.out 1
  have u2 : W1.cell? ⟨w.heap.size, 2, none⟩ = some (.int .i64 tt) := blkC hB.out 2
  have u3 : W1.cell? ⟨w.heap.size, 3, none⟩ = some (.int .i64 ro) := blkC hB.out 3
  have u4 : W1.cell? ⟨w.heap.size, 4, none⟩ = some (.int .i64 no) := blkC hB.out 4
  have u5 : W1.cell? ⟨w.heap.size, 5, none⟩ = some (.int .i64 sl) := blkC hB.out 5
  have u6 : W1.cell? ⟨w.heap.size, 6, none⟩ = some (.int .i64 nu) := blkC hB.out 6
  have u7 : W1.cell? ⟨w.heap.size, 7, none⟩ = some (.string (sOf v)) := blkC hB.out 7
  have u8 : W1.cell? ⟨w.heap.size, 8, none⟩ = some (.slice A l.length c) := blkC hB.out 8
  have lU := blkX hB.out
  by_cases hg : goodB ro no = true
  rotate_left
  · have hg2 := eq_false_of_ne_true hg
    rw [hg2]
    have hfin := Lib.hid (show argOK (⟨2, fr, tt, ro, no, sl, nu, v, l⟩ : Mg) = false from ano1 (by show (if uB 2 = true then goodB ro no else decide (ro = 0 ∧ no = 0)) = false; rw [if_pos (by decide)]; exact hg2))
    go_wp2_with (fail)
    go_ret
    exact ⟨by rw [hfin.out]; rfl, kb.out⟩
  rw [hg]
  have p1 := Lib.hid (show fB (⟨2, fr, tt, ro, no, sl, nu, v, l⟩ : Mg) = true from by show (if uB 2 = true then goodB ro no else decide (ro = 0 ∧ no = 0)) = true; rw [if_pos (by decide)]; exact hg)
  replace hg := Lib.hid hg
  by_cases hs0 : sl = 0
  rotate_left
  · have hs1 : (sl == 0) = false := by simp [hs0]
    have hfin := Lib.hid (show argOK (⟨2, fr, tt, ro, no, sl, nu, v, l⟩ : Mg) = false from ano2 (by show (if uS 2 = true then decide (0 ≤ sl ∧ sl ≤ kSl 2) else decide (sl = 0)) = false; rw [if_neg (by decide)]; exact decide_eq_false hs0))
    go_wp2_with (fail)
    go_ret
    exact ⟨by rw [hfin.out]; rfl, kb.out⟩
  subst hs0
  have p2 := Lib.hid (show fS (⟨2, fr, tt, ro, no, 0, nu, v, l⟩ : Mg) = true from by show (if uS 2 = true then decide (0 ≤ (0 : Int) ∧ (0 : Int) ≤ kSl 2) else decide ((0 : Int) = 0)) = true; rw [if_neg (by decide)]; rfl)
  by_cases hv0 : v = []
  rotate_left
  · have hv1 : (sOf v).toList.isEmpty = false := by rw [sOf_empty]; simp [hv0]
    have hfin := Lib.hid (show argOK (⟨2, fr, tt, ro, no, 0, nu, v, l⟩ : Mg) = false from ano4 (by show (if uV 2 = true then true else decide (v = [])) = false; rw [if_neg (by decide)]; exact decide_eq_false hv0))
    go_wp2_with (fail)
    go_ret
    exact ⟨by rw [hfin.out]; rfl, kb.out⟩
  have p4 := Lib.hid (show fV (⟨2, fr, tt, ro, no, 0, nu, v, l⟩ : Mg) = true from by show (if uV 2 = true then true else decide (v = [])) = true; rw [if_neg (by decide)]; exact decide_eq_true hv0)
  have hv1 : (sOf v).toList.isEmpty = true := by rw [sOf_empty]; simp [hv0]
  replace hv0 := Lib.hid hv0
  go_wp2_with (fail)
  by_cases hn0 : 0 ≤ nu ∧ nu ≤ 4096
  rotate_left
  · refine (rin_any nu 0 4096 _).mono ?_
    rintro e w1 ⟨rfl, rfl⟩
    rw [show inB nu 0 4096 = false from decide_eq_false hn0]
    have hfin := Lib.hid (show argOK (⟨2, fr, tt, ro, no, 0, nu, v, l⟩ : Mg) = false from ano3 (by show (if uN 2 = true then decide (kLo 2 ≤ nu ∧ nu ≤ kHi 2) else decide (nu = 0)) = false; rw [if_pos (by decide), show kLo 2 = 0 from by decide, show kHi 2 = 4096 from by decide]; exact decide_eq_false hn0))
    go_wp2_with (fail)
    go_ret
    exact ⟨by rw [hfin.out]; rfl, kb.out⟩
  have p3 := Lib.hid (show fN (⟨2, fr, tt, ro, no, 0, nu, v, l⟩ : Mg) = true from by show (if uN 2 = true then decide (kLo 2 ≤ nu ∧ nu ≤ kHi 2) else decide (nu = 0)) = true; rw [if_pos (by decide), show kLo 2 = 0 from by decide, show kHi 2 = 4096 from by decide]; exact decide_eq_true hn0)
  refine (rin_any nu 0 4096 _).mono ?_
  rintro e w1 ⟨rfl, rfl⟩
  rw [show inB nu 0 4096 = true from decide_eq_true hn0]
  replace hn0 := Lib.hid hn0
  go_wp2_with (fail)
  have hln := hn
  obtain ⟨n, hN⟩ : ∃ n, l.length = n := ⟨_, rfl⟩
  clear u0 u1 u2 u3 u4 u5 u6 u7
  go_loopw [11] (fun i wr => ∃ j : Nat, j ≤ n ∧ i = .int .i64 j ∧ okL (-1) (l.take j) = true ∧ Below W1.heap.size W1 wr) (fun i _ => n - (intOf i).toNat)
  case atStart => exact ⟨0, by omega, rfl, rfl, Below.refl _ _⟩
  case round =>
    clear lU
    revert wr
    intro Y hrel
    obtain ⟨j, hj, rfl, hok, hbw⟩ := hrel
    have z8 := (hbw.cell (p := ⟨w.heap.size, 8, none⟩) (blkX hB.out)).trans u8
    have lU := Nat.lt_of_lt_of_le (blkX hB.out) hbw.size
    have hE9 := SL.keep hE1.out hbw
    have kx := Lib.hid (kb.out.trans (hbw.mono kb.out.size))
    have j1' : (j : Int) < (l.length : Int) ↔ j < n := by omega
    by_cases hlt : j < n
    · have j1 : (j : Int) < (l.length : Int) := by omega
      clear j1'
      obtain ⟨b, o, x, rfl, hbl, hx, c0, c1, c2, -⟩ := ES.at_ hE9 (show j < l.length from by omega)
      have j0 : (0 : Int) ≤ j := by omega
      replace hbw := Lib.hid hbw; replace hE9 := Lib.hid hE9; replace hok := Lib.hid hok
      have hgd := fun W => rgood_any x.ro x.no W
      have hin := fun W => rin_any x.sl 0 4095 W
      by_cases h1 : 0 ≤ x.sl ∧ x.sl ≤ 4095
      rotate_left
      · simp only [show inB x.sl 0 4095 = false from decide_eq_false h1] at hin
        have hfin := Lib.hid (show argOK (⟨2, fr, tt, ro, no, 0, nu, v, l⟩ : Mg) = false from ano5 (by show (if uL 2 = true then okL (-1) l else decide (l = [])) = false; rw [if_pos (by decide)]; exact okL_bad hx (by unfold okEnt; rw [show decide (0 ≤ x.sl ∧ x.sl < 4096 ∧ lastS (-1) (l.take j) < x.sl) = false from decide_eq_false (by omega)]; rfl)))
        have hSv : ∀ W' : World, Below Y.heap.size Y W' → (fun W' : World => W'.cell? ⟨w.heap.size, 8, none⟩ = some (.slice (some ⟨b, o, none⟩) l.length c) ∧ W'.cell? ⟨b, o + j * 4, none⟩ = some (.int .i64 x.sl) ∧ W'.cell? ⟨b, o + j * 4 + 1, none⟩ = some (.int .i64 x.ro) ∧ W'.cell? ⟨b, o + j * 4 + 2, none⟩ = some (.int .i64 x.no)) W' := by
          intro W' h1
          exact ⟨(h1.cell (p := ⟨w.heap.size, 8, none⟩) lU).trans z8, (h1.cell (p := ⟨b, _, none⟩) hbl).trans c0, (h1.cell (p := ⟨b, _, none⟩) hbl).trans c1, (h1.cell (p := ⟨b, _, none⟩) hbl).trans c2⟩
        replace hSv := Lib.hid hSv
        have hbD := Lib.hid ((Below.refl Y.heap.size Y).drew)
        replace hN := Lib.hid hN; replace hin := Lib.hid hin; replace hgd := Lib.hid hgd; replace hx := Lib.hid hx
        go_wp2_with (fail)
        refine wp_region_held_drew (S := (fun W' : World => W'.cell? ⟨w.heap.size, 8, none⟩ = some (.slice (some ⟨b, o, none⟩) l.length c) ∧ W'.cell? ⟨b, o + j * 4, none⟩ = some (.int .i64 x.sl) ∧ W'.cell? ⟨b, o + j * 4 + 1, none⟩ = some (.int .i64 x.ro) ∧ W'.cell? ⟨b, o + j * 4 + 2, none⟩ = some (.int .i64 x.no))) (by kernel_rfl) ?_ (fun hH => ?_)
        · exact hSv.out _ hbD.out
        refine wpAnyH_take (i := 0) (v := ?_) rfl (by kernel_rfl) (by kernel_rfl) (by kernel_rfl) (fun _ _ _ h => h) (Or.inl ⟨by rfl, by intro w hSw; go_simp; first | done | with_reducible rfl⟩) hH ?_
        simp only [List.getElem_toArray, List.getElem_cons_succ, List.getElem_cons_zero, Act.put, List.setIfInBounds_toArray, List.set_cons_zero, List.set_cons_succ]
        refine wpAnyH_take (i := 1) (v := ?_) rfl (by kernel_rfl) (by kernel_rfl) (by kernel_rfl) (fun _ _ _ h => h) (Or.inl ⟨by rfl, by intro w hSw; obtain ⟨s0, s1, s2, s3⟩ := hSw; go_simp; first | done | with_reducible rfl⟩) hH ?_
        simp only [List.getElem_toArray, List.getElem_cons_succ, List.getElem_cons_zero, Act.put, List.setIfInBounds_toArray, List.set_cons_zero, List.set_cons_succ]
        refine wpAnyH_take (i := 2) (v := ?_) rfl (by kernel_rfl) (by kernel_rfl) (by kernel_rfl) (fun _ _ _ h => h) (Or.inl ⟨by rfl, by intro w hSw; go_simp; first | done | with_reducible rfl⟩) hH ?_
        simp only [List.getElem_toArray, List.getElem_cons_succ, List.getElem_cons_zero, Act.put, List.setIfInBounds_toArray, List.set_cons_zero, List.set_cons_succ]
        refine wpAnyH_take (i := 3) (v := ?_) rfl (by kernel_rfl) (by kernel_rfl) (by kernel_rfl) (fun _ _ _ h => h) (Or.inl ⟨by rfl, by intro w hSw; go_simp; first | done | with_reducible rfl⟩) hH ?_
        simp only [List.getElem_toArray, List.getElem_cons_succ, List.getElem_cons_zero, Act.put, List.setIfInBounds_toArray, List.set_cons_zero, List.set_cons_succ]
        refine wpAnyH_take (i := 4) (v := ?_) rfl (by kernel_rfl) (by kernel_rfl) (by kernel_rfl) (fun _ _ _ h => h) (Or.inl ⟨by rfl, by intro w hSw; go_simp; first | done | with_reducible rfl⟩) hH ?_
        simp only [List.getElem_toArray, List.getElem_cons_succ, List.getElem_cons_zero, Act.put, List.setIfInBounds_toArray, List.set_cons_zero, List.set_cons_succ]
        refine wpAnyH_take (i := 5) (v := ?_) rfl (by kernel_rfl) (by kernel_rfl) (by kernel_rfl) (fun _ _ _ h => h) (Or.inl ⟨by rfl, by intro w hSw; obtain ⟨s0, s1, s2, s3⟩ := hSw; go_simp; first | done | with_reducible rfl⟩) hH ?_
        simp only [List.getElem_toArray, List.getElem_cons_succ, List.getElem_cons_zero, Act.put, List.setIfInBounds_toArray, List.set_cons_zero, List.set_cons_succ]
        refine wpAnyH_ready (rs := [6]) (by kernel_rfl) (by simp) ?_
        refine AllReadyH.cons rfl (fun K hK => ?_) ?_
        · clear hH
          go_simp
          refine (hin.out _).mono ?_
          rintro e' V ⟨rfl, rfl⟩
          refine hK.out _ _ (hSv.out _ hbD.out) (fun hH => ?_)
          clear hK K
          refine wpAnyH_take (i := 7) (v := ?_) rfl (by kernel_rfl) (by kernel_rfl) (by kernel_rfl) (fun _ _ _ h => h) (Or.inl ⟨by rfl, by intro w hSw; go_simp; first | done | with_reducible rfl⟩) hH ?_
          simp only [List.getElem_toArray, List.getElem_cons_succ, List.getElem_cons_zero, Act.put, List.setIfInBounds_toArray, List.set_cons_zero, List.set_cons_succ]
          refine wpAnyH_take (i := 8) (v := ?_) rfl (by kernel_rfl) (by kernel_rfl) (by kernel_rfl) (fun _ _ _ h => h) (Or.inl ⟨by rfl, by intro w hSw; go_simp; first | done | with_reducible rfl⟩) hH ?_
          simp only [List.getElem_toArray, List.getElem_cons_succ, List.getElem_cons_zero, Act.put, List.setIfInBounds_toArray, List.set_cons_zero, List.set_cons_succ]
          refine wpAnyH_take (i := 9) (v := undef) rfl (by kernel_rfl) (by kernel_rfl) (by kernel_rfl) (fun _ _ _ h => h) (Or.inr ⟨by rfl, rfl⟩) hH ?_
          simp only [List.getElem_toArray, List.getElem_cons_succ, List.getElem_cons_zero, Act.put, List.setIfInBounds_toArray, List.set_cons_zero, List.set_cons_succ]
          refine wpAnyH_take (i := 10) (v := undef) rfl (by kernel_rfl) (by kernel_rfl) (by kernel_rfl) (fun _ _ _ h => h) (Or.inr ⟨by rfl, rfl⟩) hH ?_
          simp only [List.getElem_toArray, List.getElem_cons_succ, List.getElem_cons_zero, Act.put, List.setIfInBounds_toArray, List.set_cons_zero, List.set_cons_succ]
          refine wpAnyH_take (i := 11) (v := undef) rfl (by kernel_rfl) (by kernel_rfl) (by kernel_rfl) (fun _ _ _ h => h) (Or.inr ⟨by rfl, rfl⟩) hH ?_
          simp only [List.getElem_toArray, List.getElem_cons_succ, List.getElem_cons_zero, Act.put, List.setIfInBounds_toArray, List.set_cons_zero, List.set_cons_succ]
          refine wpAnyH_take (i := 12) (v := undef) rfl (by kernel_rfl) (by kernel_rfl) (by kernel_rfl) (fun _ _ _ h => h) (Or.inr ⟨by rfl, rfl⟩) hH ?_
          simp only [List.getElem_toArray, List.getElem_cons_succ, List.getElem_cons_zero, Act.put, List.setIfInBounds_toArray, List.set_cons_zero, List.set_cons_succ]
          refine wpAnyH_take (i := 13) (v := undef) rfl (by kernel_rfl) (by kernel_rfl) (by kernel_rfl) (fun _ _ _ h => h) (Or.inr ⟨by rfl, rfl⟩) hH ?_
          simp only [List.getElem_toArray, List.getElem_cons_succ, List.getElem_cons_zero, Act.put, List.setIfInBounds_toArray, List.set_cons_zero, List.set_cons_succ]
          refine wpAnyH_take (i := 14) (v := undef) rfl (by kernel_rfl) (by kernel_rfl) (by kernel_rfl) (fun _ _ _ h => h) (Or.inr ⟨by rfl, rfl⟩) hH ?_
          simp only [List.getElem_toArray, List.getElem_cons_succ, List.getElem_cons_zero, Act.put, List.setIfInBounds_toArray, List.set_cons_zero, List.set_cons_succ]
          refine wpAnyH_take (i := 15) (v := undef) rfl (by kernel_rfl) (by kernel_rfl) (by kernel_rfl) (fun _ _ _ h => h) (Or.inr ⟨by rfl, rfl⟩) hH ?_
          simp only [List.getElem_toArray, List.getElem_cons_succ, List.getElem_cons_zero, Act.put, List.setIfInBounds_toArray, List.set_cons_zero, List.set_cons_succ]
          refine wpAnyH_take (i := 16) (v := undef) rfl (by kernel_rfl) (by kernel_rfl) (by kernel_rfl) (fun _ _ _ h => h) (Or.inr ⟨by rfl, rfl⟩) hH ?_
          simp only [List.getElem_toArray, List.getElem_cons_succ, List.getElem_cons_zero, Act.put, List.setIfInBounds_toArray, List.set_cons_zero, List.set_cons_succ]
          refine wpAnyH_take (i := 17) (v := ?_) rfl (by kernel_rfl) (by kernel_rfl) (by kernel_rfl) (fun _ _ _ h => h) (Or.inl ⟨by rfl, by intro w hSw; go_simp; first | done | with_reducible rfl⟩) hH ?_
          simp only [List.getElem_toArray, List.getElem_cons_succ, List.getElem_cons_zero, Act.put, List.setIfInBounds_toArray, List.set_cons_zero, List.set_cons_succ]
          refine wpAnyH_take (i := 18) (v := ?_) rfl (by kernel_rfl) (by kernel_rfl) (by kernel_rfl) (fun _ _ _ h => h) (Or.inl ⟨by rfl, by intro w hSw; go_simp; first | done | with_reducible rfl⟩) hH ?_
          simp only [List.getElem_toArray, List.getElem_cons_succ, List.getElem_cons_zero, Act.put, List.setIfInBounds_toArray, List.set_cons_zero, List.set_cons_succ]
          refine wpAnyH_take (i := 19) (v := undef) rfl (by kernel_rfl) (by kernel_rfl) (by kernel_rfl) (fun _ _ _ h => h) (Or.inr ⟨by rfl, rfl⟩) hH ?_
          simp only [List.getElem_toArray, List.getElem_cons_succ, List.getElem_cons_zero, Act.put, List.setIfInBounds_toArray, List.set_cons_zero, List.set_cons_succ]
          refine wpAnyH_take (i := 20) (v := undef) rfl (by kernel_rfl) (by kernel_rfl) (by kernel_rfl) (fun _ _ _ h => h) (Or.inr ⟨by rfl, rfl⟩) hH ?_
          simp only [List.getElem_toArray, List.getElem_cons_succ, List.getElem_cons_zero, Act.put, List.setIfInBounds_toArray, List.set_cons_zero, List.set_cons_succ]
          refine wpAnyH_take (i := 21) (v := undef) rfl (by kernel_rfl) (by kernel_rfl) (by kernel_rfl) (fun _ _ _ h => h) (Or.inr ⟨by rfl, rfl⟩) hH ?_
          simp only [List.getElem_toArray, List.getElem_cons_succ, List.getElem_cons_zero, Act.put, List.setIfInBounds_toArray, List.set_cons_zero, List.set_cons_succ]
          refine wpAnyH_take (i := 22) (v := undef) rfl (by kernel_rfl) (by kernel_rfl) (by kernel_rfl) (fun _ _ _ h => h) (Or.inr ⟨by rfl, rfl⟩) hH ?_
          simp only [List.getElem_toArray, List.getElem_cons_succ, List.getElem_cons_zero, Act.put, List.setIfInBounds_toArray, List.set_cons_zero, List.set_cons_succ]
          refine wpAnyH_take (i := 23) (v := undef) rfl (by kernel_rfl) (by kernel_rfl) (by kernel_rfl) (fun _ _ _ h => h) (Or.inr ⟨by rfl, rfl⟩) hH ?_
          simp only [List.getElem_toArray, List.getElem_cons_succ, List.getElem_cons_zero, Act.put, List.setIfInBounds_toArray, List.set_cons_zero, List.set_cons_succ]
          refine wpAnyH_take (i := 24) (v := undef) rfl (by kernel_rfl) (by kernel_rfl) (by kernel_rfl) (fun _ _ _ h => h) (Or.inr ⟨by rfl, rfl⟩) hH ?_
          simp only [List.getElem_toArray, List.getElem_cons_succ, List.getElem_cons_zero, Act.put, List.setIfInBounds_toArray, List.set_cons_zero, List.set_cons_succ]
          refine wpAnyH_take (i := 25) (v := undef) rfl (by kernel_rfl) (by kernel_rfl) (by kernel_rfl) (fun _ _ _ h => h) (Or.inr ⟨by rfl, rfl⟩) hH ?_
          simp only [List.getElem_toArray, List.getElem_cons_succ, List.getElem_cons_zero, Act.put, List.setIfInBounds_toArray, List.set_cons_zero, List.set_cons_succ]
          refine wpAnyH_take (i := 26) (v := undef) rfl (by kernel_rfl) (by kernel_rfl) (by kernel_rfl) (fun _ _ _ h => h) (Or.inr ⟨by rfl, rfl⟩) hH ?_
          simp only [List.getElem_toArray, List.getElem_cons_succ, List.getElem_cons_zero, Act.put, List.setIfInBounds_toArray, List.set_cons_zero, List.set_cons_succ]
          refine wpAnyH_take (i := 27) (v := undef) rfl (by kernel_rfl) (by kernel_rfl) (by kernel_rfl) (fun _ _ _ h => h) (Or.inr ⟨by rfl, rfl⟩) hH ?_
          simp only [List.getElem_toArray, List.getElem_cons_succ, List.getElem_cons_zero, Act.put, List.setIfInBounds_toArray, List.set_cons_zero, List.set_cons_succ]
          refine wpAnyH_take (i := 28) (v := undef) rfl (by kernel_rfl) (by kernel_rfl) (by kernel_rfl) (fun _ _ _ h => h) (Or.inr ⟨by rfl, rfl⟩) hH ?_
          simp only [List.getElem_toArray, List.getElem_cons_succ, List.getElem_cons_zero, Act.put, List.setIfInBounds_toArray, List.set_cons_zero, List.set_cons_succ]
          refine wpAnyH_take (i := 29) (v := undef) rfl (by kernel_rfl) (by kernel_rfl) (by kernel_rfl) (fun _ _ _ h => h) (Or.inr ⟨by rfl, rfl⟩) hH ?_
          simp only [List.getElem_toArray, List.getElem_cons_succ, List.getElem_cons_zero, Act.put, List.setIfInBounds_toArray, List.set_cons_zero, List.set_cons_succ]
          refine wpAnyH_take (i := 30) (v := undef) rfl (by kernel_rfl) (by kernel_rfl) (by kernel_rfl) (fun _ _ _ h => h) (Or.inr ⟨by rfl, rfl⟩) hH ?_
          simp only [List.getElem_toArray, List.getElem_cons_succ, List.getElem_cons_zero, Act.put, List.setIfInBounds_toArray, List.set_cons_zero, List.set_cons_succ]
          refine wpAnyH_take (i := 31) (v := undef) rfl (by kernel_rfl) (by kernel_rfl) (by kernel_rfl) (fun _ _ _ h => h) (Or.inr ⟨by rfl, rfl⟩) hH ?_
          simp only [List.getElem_toArray, List.getElem_cons_succ, List.getElem_cons_zero, Act.put, List.setIfInBounds_toArray, List.set_cons_zero, List.set_cons_succ]
          refine wpAnyH_take (i := 32) (v := undef) rfl (by kernel_rfl) (by kernel_rfl) (by kernel_rfl) (fun _ _ _ h => h) (Or.inr ⟨by rfl, rfl⟩) hH ?_
          simp only [List.getElem_toArray, List.getElem_cons_succ, List.getElem_cons_zero, Act.put, List.setIfInBounds_toArray, List.set_cons_zero, List.set_cons_succ]
          refine wpAnyH_take (i := 33) (v := undef) rfl (by kernel_rfl) (by kernel_rfl) (by kernel_rfl) (fun _ _ _ h => h) (Or.inr ⟨by rfl, rfl⟩) hH ?_
          simp only [List.getElem_toArray, List.getElem_cons_succ, List.getElem_cons_zero, Act.put, List.setIfInBounds_toArray, List.set_cons_zero, List.set_cons_succ]
          refine wpAnyH_take (i := 34) (v := undef) rfl (by kernel_rfl) (by kernel_rfl) (by kernel_rfl) (fun _ _ _ h => h) (Or.inr ⟨by rfl, rfl⟩) hH ?_
          simp only [List.getElem_toArray, List.getElem_cons_succ, List.getElem_cons_zero, Act.put, List.setIfInBounds_toArray, List.set_cons_zero, List.set_cons_succ]
          refine wpAnyH_take (i := 35) (v := undef) rfl (by kernel_rfl) (by kernel_rfl) (by kernel_rfl) (fun _ _ _ h => h) (Or.inr ⟨by rfl, rfl⟩) hH ?_
          simp only [List.getElem_toArray, List.getElem_cons_succ, List.getElem_cons_zero, Act.put, List.setIfInBounds_toArray, List.set_cons_zero, List.set_cons_succ]
          refine wpAnyH_take (i := 36) (v := undef) rfl (by kernel_rfl) (by kernel_rfl) (by kernel_rfl) (fun _ _ _ h => h) (Or.inr ⟨by rfl, rfl⟩) hH ?_
          simp only [List.getElem_toArray, List.getElem_cons_succ, List.getElem_cons_zero, Act.put, List.setIfInBounds_toArray, List.set_cons_zero, List.set_cons_succ]
          refine wpAnyH_take (i := 37) (v := ?_) rfl (by kernel_rfl) (by kernel_rfl) (by kernel_rfl) (fun _ _ _ h => h) (Or.inl ⟨by rfl, by intro w hSw; go_simp; first | done | with_reducible rfl⟩) hH ?_
          simp only [List.getElem_toArray, List.getElem_cons_succ, List.getElem_cons_zero, Act.put, List.setIfInBounds_toArray, List.set_cons_zero, List.set_cons_succ]
          refine wpAnyH_done (by kernel_rfl) ?_ _
          clear hH
          have kx2 := Lib.hid (kx.out.trans (hbD.out.mono kx.out.size))
          have hbw2 := Lib.hid (hbw.out.trans (hbD.out.mono hbw.out.size))
          clear hSv hbD kx hbw z8 c0 c1 c2
          go_wp2_with (fail)
          go_ret
          exact ⟨by rw [hfin.out]; rfl, kx2.out⟩
        exact AllReadyH.nil
      simp only [show inB x.sl 0 4095 = true from decide_eq_true h1] at hin
      by_cases h2 : goodB x.ro x.no = true
      rotate_left
      · have h2b := eq_false_of_ne_true h2
        simp only [h2b] at hgd
        have hfin := Lib.hid (show argOK (⟨2, fr, tt, ro, no, 0, nu, v, l⟩ : Mg) = false from ano5 (by show (if uL 2 = true then okL (-1) l else decide (l = [])) = false; rw [if_pos (by decide)]; exact okL_bad hx (by unfold okEnt; rw [h2b, Bool.and_false])))
        have hSv : ∀ W' : World, Below Y.heap.size Y W' → (fun W' : World => W'.cell? ⟨w.heap.size, 8, none⟩ = some (.slice (some ⟨b, o, none⟩) l.length c) ∧ W'.cell? ⟨b, o + j * 4, none⟩ = some (.int .i64 x.sl) ∧ W'.cell? ⟨b, o + j * 4 + 1, none⟩ = some (.int .i64 x.ro) ∧ W'.cell? ⟨b, o + j * 4 + 2, none⟩ = some (.int .i64 x.no)) W' := by
          intro W' h1
          exact ⟨(h1.cell (p := ⟨w.heap.size, 8, none⟩) lU).trans z8, (h1.cell (p := ⟨b, _, none⟩) hbl).trans c0, (h1.cell (p := ⟨b, _, none⟩) hbl).trans c1, (h1.cell (p := ⟨b, _, none⟩) hbl).trans c2⟩
        replace hSv := Lib.hid hSv
        have hbD := Lib.hid ((Below.refl Y.heap.size Y).drew)
        replace hN := Lib.hid hN; replace hin := Lib.hid hin; replace hgd := Lib.hid hgd; replace hx := Lib.hid hx
        go_wp2_with (fail)
        refine wp_region_held_drew (S := (fun W' : World => W'.cell? ⟨w.heap.size, 8, none⟩ = some (.slice (some ⟨b, o, none⟩) l.length c) ∧ W'.cell? ⟨b, o + j * 4, none⟩ = some (.int .i64 x.sl) ∧ W'.cell? ⟨b, o + j * 4 + 1, none⟩ = some (.int .i64 x.ro) ∧ W'.cell? ⟨b, o + j * 4 + 2, none⟩ = some (.int .i64 x.no))) (by kernel_rfl) ?_ (fun hH => ?_)
        · exact hSv.out _ hbD.out
        refine wpAnyH_take (i := 0) (v := ?_) rfl (by kernel_rfl) (by kernel_rfl) (by kernel_rfl) (fun _ _ _ h => h) (Or.inl ⟨by rfl, by intro w hSw; go_simp; first | done | with_reducible rfl⟩) hH ?_
        simp only [List.getElem_toArray, List.getElem_cons_succ, List.getElem_cons_zero, Act.put, List.setIfInBounds_toArray, List.set_cons_zero, List.set_cons_succ]
        refine wpAnyH_take (i := 1) (v := ?_) rfl (by kernel_rfl) (by kernel_rfl) (by kernel_rfl) (fun _ _ _ h => h) (Or.inl ⟨by rfl, by intro w hSw; obtain ⟨s0, s1, s2, s3⟩ := hSw; go_simp; first | done | with_reducible rfl⟩) hH ?_
        simp only [List.getElem_toArray, List.getElem_cons_succ, List.getElem_cons_zero, Act.put, List.setIfInBounds_toArray, List.set_cons_zero, List.set_cons_succ]
        refine wpAnyH_take (i := 2) (v := ?_) rfl (by kernel_rfl) (by kernel_rfl) (by kernel_rfl) (fun _ _ _ h => h) (Or.inl ⟨by rfl, by intro w hSw; go_simp; first | done | with_reducible rfl⟩) hH ?_
        simp only [List.getElem_toArray, List.getElem_cons_succ, List.getElem_cons_zero, Act.put, List.setIfInBounds_toArray, List.set_cons_zero, List.set_cons_succ]
        refine wpAnyH_take (i := 3) (v := ?_) rfl (by kernel_rfl) (by kernel_rfl) (by kernel_rfl) (fun _ _ _ h => h) (Or.inl ⟨by rfl, by intro w hSw; go_simp; first | done | with_reducible rfl⟩) hH ?_
        simp only [List.getElem_toArray, List.getElem_cons_succ, List.getElem_cons_zero, Act.put, List.setIfInBounds_toArray, List.set_cons_zero, List.set_cons_succ]
        refine wpAnyH_take (i := 4) (v := ?_) rfl (by kernel_rfl) (by kernel_rfl) (by kernel_rfl) (fun _ _ _ h => h) (Or.inl ⟨by rfl, by intro w hSw; go_simp; first | done | with_reducible rfl⟩) hH ?_
        simp only [List.getElem_toArray, List.getElem_cons_succ, List.getElem_cons_zero, Act.put, List.setIfInBounds_toArray, List.set_cons_zero, List.set_cons_succ]
        refine wpAnyH_take (i := 5) (v := ?_) rfl (by kernel_rfl) (by kernel_rfl) (by kernel_rfl) (fun _ _ _ h => h) (Or.inl ⟨by rfl, by intro w hSw; obtain ⟨s0, s1, s2, s3⟩ := hSw; go_simp; first | done | with_reducible rfl⟩) hH ?_
        simp only [List.getElem_toArray, List.getElem_cons_succ, List.getElem_cons_zero, Act.put, List.setIfInBounds_toArray, List.set_cons_zero, List.set_cons_succ]
        refine wpAnyH_ready (rs := [6]) (by kernel_rfl) (by simp) ?_
        refine AllReadyH.cons rfl (fun K hK => ?_) ?_
        · clear hH
          go_simp
          refine (hin.out _).mono ?_
          rintro e' V ⟨rfl, rfl⟩
          refine hK.out _ _ (hSv.out _ hbD.out) (fun hH => ?_)
          clear hK K
          refine wpAnyH_take (i := 7) (v := ?_) rfl (by kernel_rfl) (by kernel_rfl) (by kernel_rfl) (fun _ _ _ h => h) (Or.inl ⟨by rfl, by intro w hSw; go_simp; first | done | with_reducible rfl⟩) hH ?_
          simp only [List.getElem_toArray, List.getElem_cons_succ, List.getElem_cons_zero, Act.put, List.setIfInBounds_toArray, List.set_cons_zero, List.set_cons_succ]
          refine wpAnyH_take (i := 8) (v := ?_) rfl (by kernel_rfl) (by kernel_rfl) (by kernel_rfl) (fun _ _ _ h => h) (Or.inl ⟨by rfl, by intro w hSw; go_simp; first | done | with_reducible rfl⟩) hH ?_
          simp only [List.getElem_toArray, List.getElem_cons_succ, List.getElem_cons_zero, Act.put, List.setIfInBounds_toArray, List.set_cons_zero, List.set_cons_succ]
          refine wpAnyH_take (i := 9) (v := ?_) rfl (by kernel_rfl) (by kernel_rfl) (by kernel_rfl) (fun _ _ _ h => h) (Or.inl ⟨by rfl, by intro w hSw; go_simp; first | done | with_reducible rfl⟩) hH ?_
          simp only [List.getElem_toArray, List.getElem_cons_succ, List.getElem_cons_zero, Act.put, List.setIfInBounds_toArray, List.set_cons_zero, List.set_cons_succ]
          refine wpAnyH_take (i := 10) (v := ?_) rfl (by kernel_rfl) (by kernel_rfl) (by kernel_rfl) (fun _ _ _ h => h) (Or.inl ⟨by rfl, by intro w hSw; obtain ⟨s0, s1, s2, s3⟩ := hSw; go_simp; first | done | with_reducible rfl⟩) hH ?_
          simp only [List.getElem_toArray, List.getElem_cons_succ, List.getElem_cons_zero, Act.put, List.setIfInBounds_toArray, List.set_cons_zero, List.set_cons_succ]
          refine wpAnyH_take (i := 11) (v := ?_) rfl (by kernel_rfl) (by kernel_rfl) (by kernel_rfl) (fun _ _ _ h => h) (Or.inl ⟨by rfl, by intro w hSw; go_simp; first | done | with_reducible rfl⟩) hH ?_
          simp only [List.getElem_toArray, List.getElem_cons_succ, List.getElem_cons_zero, Act.put, List.setIfInBounds_toArray, List.set_cons_zero, List.set_cons_succ]
          refine wpAnyH_take (i := 12) (v := ?_) rfl (by kernel_rfl) (by kernel_rfl) (by kernel_rfl) (fun _ _ _ h => h) (Or.inl ⟨by rfl, by intro w hSw; go_simp; first | done | with_reducible rfl⟩) hH ?_
          simp only [List.getElem_toArray, List.getElem_cons_succ, List.getElem_cons_zero, Act.put, List.setIfInBounds_toArray, List.set_cons_zero, List.set_cons_succ]
          refine wpAnyH_take (i := 13) (v := ?_) rfl (by kernel_rfl) (by kernel_rfl) (by kernel_rfl) (fun _ _ _ h => h) (Or.inl ⟨by rfl, by intro w hSw; go_simp; first | done | with_reducible rfl⟩) hH ?_
          simp only [List.getElem_toArray, List.getElem_cons_succ, List.getElem_cons_zero, Act.put, List.setIfInBounds_toArray, List.set_cons_zero, List.set_cons_succ]
          refine wpAnyH_take (i := 14) (v := ?_) rfl (by kernel_rfl) (by kernel_rfl) (by kernel_rfl) (fun _ _ _ h => h) (Or.inl ⟨by rfl, by intro w hSw; obtain ⟨s0, s1, s2, s3⟩ := hSw; go_simp; first | done | with_reducible rfl⟩) hH ?_
          simp only [List.getElem_toArray, List.getElem_cons_succ, List.getElem_cons_zero, Act.put, List.setIfInBounds_toArray, List.set_cons_zero, List.set_cons_succ]
          refine wpAnyH_ready (rs := [15]) (by kernel_rfl) (by simp) ?_
          refine AllReadyH.cons rfl (fun K hK => ?_) ?_
          · clear hH
            go_simp
            refine (hgd.out _).mono ?_
            rintro e' V ⟨rfl, bV⟩
            have hbE := Lib.hid (hbD.out.trans (bV.mono hbD.out.size))
            clear bV hbD; have hbD := hbE; clear hbE
            refine hK.out _ _ (hSv.out _ hbD.out) (fun hH => ?_)
            clear hK K
            refine wpAnyH_take (i := 16) (v := ?_) rfl (by kernel_rfl) (by kernel_rfl) (by kernel_rfl) (fun _ _ _ h => h) (Or.inl ⟨by rfl, by intro w hSw; go_simp; first | done | with_reducible rfl⟩) hH ?_
            simp only [List.getElem_toArray, List.getElem_cons_succ, List.getElem_cons_zero, Act.put, List.setIfInBounds_toArray, List.set_cons_zero, List.set_cons_succ]
            refine wpAnyH_take (i := 17) (v := ?_) rfl (by kernel_rfl) (by kernel_rfl) (by kernel_rfl) (fun _ _ _ h => h) (Or.inl ⟨by rfl, by intro w hSw; go_simp; first | done | with_reducible rfl⟩) hH ?_
            simp only [List.getElem_toArray, List.getElem_cons_succ, List.getElem_cons_zero, Act.put, List.setIfInBounds_toArray, List.set_cons_zero, List.set_cons_succ]
            refine wpAnyH_take (i := 18) (v := ?_) rfl (by kernel_rfl) (by kernel_rfl) (by kernel_rfl) (fun _ _ _ h => h) (Or.inl ⟨by rfl, by intro w hSw; go_simp; first | done | with_reducible rfl⟩) hH ?_
            simp only [List.getElem_toArray, List.getElem_cons_succ, List.getElem_cons_zero, Act.put, List.setIfInBounds_toArray, List.set_cons_zero, List.set_cons_succ]
            refine wpAnyH_take (i := 19) (v := undef) rfl (by kernel_rfl) (by kernel_rfl) (by kernel_rfl) (fun _ _ _ h => h) (Or.inr ⟨by rfl, rfl⟩) hH ?_
            simp only [List.getElem_toArray, List.getElem_cons_succ, List.getElem_cons_zero, Act.put, List.setIfInBounds_toArray, List.set_cons_zero, List.set_cons_succ]
            refine wpAnyH_take (i := 20) (v := undef) rfl (by kernel_rfl) (by kernel_rfl) (by kernel_rfl) (fun _ _ _ h => h) (Or.inr ⟨by rfl, rfl⟩) hH ?_
            simp only [List.getElem_toArray, List.getElem_cons_succ, List.getElem_cons_zero, Act.put, List.setIfInBounds_toArray, List.set_cons_zero, List.set_cons_succ]
            refine wpAnyH_take (i := 21) (v := undef) rfl (by kernel_rfl) (by kernel_rfl) (by kernel_rfl) (fun _ _ _ h => h) (Or.inr ⟨by rfl, rfl⟩) hH ?_
            simp only [List.getElem_toArray, List.getElem_cons_succ, List.getElem_cons_zero, Act.put, List.setIfInBounds_toArray, List.set_cons_zero, List.set_cons_succ]
            refine wpAnyH_take (i := 22) (v := undef) rfl (by kernel_rfl) (by kernel_rfl) (by kernel_rfl) (fun _ _ _ h => h) (Or.inr ⟨by rfl, rfl⟩) hH ?_
            simp only [List.getElem_toArray, List.getElem_cons_succ, List.getElem_cons_zero, Act.put, List.setIfInBounds_toArray, List.set_cons_zero, List.set_cons_succ]
            refine wpAnyH_take (i := 23) (v := undef) rfl (by kernel_rfl) (by kernel_rfl) (by kernel_rfl) (fun _ _ _ h => h) (Or.inr ⟨by rfl, rfl⟩) hH ?_
            simp only [List.getElem_toArray, List.getElem_cons_succ, List.getElem_cons_zero, Act.put, List.setIfInBounds_toArray, List.set_cons_zero, List.set_cons_succ]
            refine wpAnyH_take (i := 24) (v := undef) rfl (by kernel_rfl) (by kernel_rfl) (by kernel_rfl) (fun _ _ _ h => h) (Or.inr ⟨by rfl, rfl⟩) hH ?_
            simp only [List.getElem_toArray, List.getElem_cons_succ, List.getElem_cons_zero, Act.put, List.setIfInBounds_toArray, List.set_cons_zero, List.set_cons_succ]
            refine wpAnyH_take (i := 25) (v := undef) rfl (by kernel_rfl) (by kernel_rfl) (by kernel_rfl) (fun _ _ _ h => h) (Or.inr ⟨by rfl, rfl⟩) hH ?_
            simp only [List.getElem_toArray, List.getElem_cons_succ, List.getElem_cons_zero, Act.put, List.setIfInBounds_toArray, List.set_cons_zero, List.set_cons_succ]
            refine wpAnyH_take (i := 26) (v := undef) rfl (by kernel_rfl) (by kernel_rfl) (by kernel_rfl) (fun _ _ _ h => h) (Or.inr ⟨by rfl, rfl⟩) hH ?_
            simp only [List.getElem_toArray, List.getElem_cons_succ, List.getElem_cons_zero, Act.put, List.setIfInBounds_toArray, List.set_cons_zero, List.set_cons_succ]
            refine wpAnyH_take (i := 27) (v := undef) rfl (by kernel_rfl) (by kernel_rfl) (by kernel_rfl) (fun _ _ _ h => h) (Or.inr ⟨by rfl, rfl⟩) hH ?_
            simp only [List.getElem_toArray, List.getElem_cons_succ, List.getElem_cons_zero, Act.put, List.setIfInBounds_toArray, List.set_cons_zero, List.set_cons_succ]
            refine wpAnyH_take (i := 28) (v := undef) rfl (by kernel_rfl) (by kernel_rfl) (by kernel_rfl) (fun _ _ _ h => h) (Or.inr ⟨by rfl, rfl⟩) hH ?_
            simp only [List.getElem_toArray, List.getElem_cons_succ, List.getElem_cons_zero, Act.put, List.setIfInBounds_toArray, List.set_cons_zero, List.set_cons_succ]
            refine wpAnyH_take (i := 29) (v := undef) rfl (by kernel_rfl) (by kernel_rfl) (by kernel_rfl) (fun _ _ _ h => h) (Or.inr ⟨by rfl, rfl⟩) hH ?_
            simp only [List.getElem_toArray, List.getElem_cons_succ, List.getElem_cons_zero, Act.put, List.setIfInBounds_toArray, List.set_cons_zero, List.set_cons_succ]
            refine wpAnyH_take (i := 30) (v := undef) rfl (by kernel_rfl) (by kernel_rfl) (by kernel_rfl) (fun _ _ _ h => h) (Or.inr ⟨by rfl, rfl⟩) hH ?_
            simp only [List.getElem_toArray, List.getElem_cons_succ, List.getElem_cons_zero, Act.put, List.setIfInBounds_toArray, List.set_cons_zero, List.set_cons_succ]
            refine wpAnyH_take (i := 31) (v := undef) rfl (by kernel_rfl) (by kernel_rfl) (by kernel_rfl) (fun _ _ _ h => h) (Or.inr ⟨by rfl, rfl⟩) hH ?_
            simp only [List.getElem_toArray, List.getElem_cons_succ, List.getElem_cons_zero, Act.put, List.setIfInBounds_toArray, List.set_cons_zero, List.set_cons_succ]
            refine wpAnyH_take (i := 32) (v := undef) rfl (by kernel_rfl) (by kernel_rfl) (by kernel_rfl) (fun _ _ _ h => h) (Or.inr ⟨by rfl, rfl⟩) hH ?_
            simp only [List.getElem_toArray, List.getElem_cons_succ, List.getElem_cons_zero, Act.put, List.setIfInBounds_toArray, List.set_cons_zero, List.set_cons_succ]
            refine wpAnyH_take (i := 33) (v := undef) rfl (by kernel_rfl) (by kernel_rfl) (by kernel_rfl) (fun _ _ _ h => h) (Or.inr ⟨by rfl, rfl⟩) hH ?_
            simp only [List.getElem_toArray, List.getElem_cons_succ, List.getElem_cons_zero, Act.put, List.setIfInBounds_toArray, List.set_cons_zero, List.set_cons_succ]
            refine wpAnyH_take (i := 34) (v := undef) rfl (by kernel_rfl) (by kernel_rfl) (by kernel_rfl) (fun _ _ _ h => h) (Or.inr ⟨by rfl, rfl⟩) hH ?_
            simp only [List.getElem_toArray, List.getElem_cons_succ, List.getElem_cons_zero, Act.put, List.setIfInBounds_toArray, List.set_cons_zero, List.set_cons_succ]
            refine wpAnyH_take (i := 35) (v := undef) rfl (by kernel_rfl) (by kernel_rfl) (by kernel_rfl) (fun _ _ _ h => h) (Or.inr ⟨by rfl, rfl⟩) hH ?_
            simp only [List.getElem_toArray, List.getElem_cons_succ, List.getElem_cons_zero, Act.put, List.setIfInBounds_toArray, List.set_cons_zero, List.set_cons_succ]
            refine wpAnyH_take (i := 36) (v := undef) rfl (by kernel_rfl) (by kernel_rfl) (by kernel_rfl) (fun _ _ _ h => h) (Or.inr ⟨by rfl, rfl⟩) hH ?_
            simp only [List.getElem_toArray, List.getElem_cons_succ, List.getElem_cons_zero, Act.put, List.setIfInBounds_toArray, List.set_cons_zero, List.set_cons_succ]
            refine wpAnyH_take (i := 37) (v := ?_) rfl (by kernel_rfl) (by kernel_rfl) (by kernel_rfl) (fun _ _ _ h => h) (Or.inl ⟨by rfl, by intro w hSw; go_simp; first | done | with_reducible rfl⟩) hH ?_
            simp only [List.getElem_toArray, List.getElem_cons_succ, List.getElem_cons_zero, Act.put, List.setIfInBounds_toArray, List.set_cons_zero, List.set_cons_succ]
            refine wpAnyH_done (by kernel_rfl) ?_ _
            clear hH
            have kx2 := Lib.hid (kx.out.trans (hbD.out.mono kx.out.size))
            have hbw2 := Lib.hid (hbw.out.trans (hbD.out.mono hbw.out.size))
            clear hSv hbD kx hbw z8 c0 c1 c2
            go_wp2_with (fail)
            go_ret
            exact ⟨by rw [hfin.out]; rfl, kx2.out⟩
          exact AllReadyH.nil
        exact AllReadyH.nil
      simp only [h2] at hgd
      have hnext : lastS (-1) (l.take j) < x.sl → okL (-1) (l.take (j + 1)) = true := fun h => okL_next hx hok.out (by unfold okEnt; rw [h2, Bool.and_true]; exact decide_eq_true (by omega))
      by_cases hj0 : j = 0
      · have hnx := Lib.hid (hnext (by rw [hj0]; simp [lastS]; omega))
        have hjn : ¬ (0 : Int) < (j : Int) := by omega
        have hjm : ¬ 0 < j := by omega
        clear hj0
        have hSv : ∀ W' : World, Below Y.heap.size Y W' → (fun W' : World => W'.cell? ⟨w.heap.size, 8, none⟩ = some (.slice (some ⟨b, o, none⟩) l.length c) ∧ W'.cell? ⟨b, o + j * 4, none⟩ = some (.int .i64 x.sl) ∧ W'.cell? ⟨b, o + j * 4 + 1, none⟩ = some (.int .i64 x.ro) ∧ W'.cell? ⟨b, o + j * 4 + 2, none⟩ = some (.int .i64 x.no)) W' := by
          intro W' h1
          exact ⟨(h1.cell (p := ⟨w.heap.size, 8, none⟩) lU).trans z8, (h1.cell (p := ⟨b, _, none⟩) hbl).trans c0, (h1.cell (p := ⟨b, _, none⟩) hbl).trans c1, (h1.cell (p := ⟨b, _, none⟩) hbl).trans c2⟩
        replace hSv := Lib.hid hSv
        have hbD := Lib.hid ((Below.refl Y.heap.size Y).drew)
        replace hN := Lib.hid hN; replace hin := Lib.hid hin; replace hgd := Lib.hid hgd; replace hx := Lib.hid hx; clear hnext
        go_wp2_with (fail)
        refine wp_region_held_drew (S := (fun W' : World => W'.cell? ⟨w.heap.size, 8, none⟩ = some (.slice (some ⟨b, o, none⟩) l.length c) ∧ W'.cell? ⟨b, o + j * 4, none⟩ = some (.int .i64 x.sl) ∧ W'.cell? ⟨b, o + j * 4 + 1, none⟩ = some (.int .i64 x.ro) ∧ W'.cell? ⟨b, o + j * 4 + 2, none⟩ = some (.int .i64 x.no))) (by kernel_rfl) ?_ (fun hH => ?_)
        · exact hSv.out _ hbD.out
        refine wpAnyH_take (i := 0) (v := ?_) rfl (by kernel_rfl) (by kernel_rfl) (by kernel_rfl) (fun _ _ _ h => h) (Or.inl ⟨by rfl, by intro w hSw; go_simp; first | done | with_reducible rfl⟩) hH ?_
        simp only [List.getElem_toArray, List.getElem_cons_succ, List.getElem_cons_zero, Act.put, List.setIfInBounds_toArray, List.set_cons_zero, List.set_cons_succ]
        refine wpAnyH_take (i := 1) (v := ?_) rfl (by kernel_rfl) (by kernel_rfl) (by kernel_rfl) (fun _ _ _ h => h) (Or.inl ⟨by rfl, by intro w hSw; obtain ⟨s0, s1, s2, s3⟩ := hSw; go_simp; first | done | with_reducible rfl⟩) hH ?_
        simp only [List.getElem_toArray, List.getElem_cons_succ, List.getElem_cons_zero, Act.put, List.setIfInBounds_toArray, List.set_cons_zero, List.set_cons_succ]
        refine wpAnyH_take (i := 2) (v := ?_) rfl (by kernel_rfl) (by kernel_rfl) (by kernel_rfl) (fun _ _ _ h => h) (Or.inl ⟨by rfl, by intro w hSw; go_simp; first | done | with_reducible rfl⟩) hH ?_
        simp only [List.getElem_toArray, List.getElem_cons_succ, List.getElem_cons_zero, Act.put, List.setIfInBounds_toArray, List.set_cons_zero, List.set_cons_succ]
        refine wpAnyH_take (i := 3) (v := ?_) rfl (by kernel_rfl) (by kernel_rfl) (by kernel_rfl) (fun _ _ _ h => h) (Or.inl ⟨by rfl, by intro w hSw; go_simp; first | done | with_reducible rfl⟩) hH ?_
        simp only [List.getElem_toArray, List.getElem_cons_succ, List.getElem_cons_zero, Act.put, List.setIfInBounds_toArray, List.set_cons_zero, List.set_cons_succ]
        refine wpAnyH_take (i := 4) (v := ?_) rfl (by kernel_rfl) (by kernel_rfl) (by kernel_rfl) (fun _ _ _ h => h) (Or.inl ⟨by rfl, by intro w hSw; go_simp; first | done | with_reducible rfl⟩) hH ?_
        simp only [List.getElem_toArray, List.getElem_cons_succ, List.getElem_cons_zero, Act.put, List.setIfInBounds_toArray, List.set_cons_zero, List.set_cons_succ]
        refine wpAnyH_take (i := 5) (v := ?_) rfl (by kernel_rfl) (by kernel_rfl) (by kernel_rfl) (fun _ _ _ h => h) (Or.inl ⟨by rfl, by intro w hSw; obtain ⟨s0, s1, s2, s3⟩ := hSw; go_simp; first | done | with_reducible rfl⟩) hH ?_
        simp only [List.getElem_toArray, List.getElem_cons_succ, List.getElem_cons_zero, Act.put, List.setIfInBounds_toArray, List.set_cons_zero, List.set_cons_succ]
        refine wpAnyH_ready (rs := [6]) (by kernel_rfl) (by simp) ?_
        refine AllReadyH.cons rfl (fun K hK => ?_) ?_
        · clear hH
          go_simp
          refine (hin.out _).mono ?_
          rintro e' V ⟨rfl, rfl⟩
          refine hK.out _ _ (hSv.out _ hbD.out) (fun hH => ?_)
          clear hK K
          refine wpAnyH_take (i := 7) (v := ?_) rfl (by kernel_rfl) (by kernel_rfl) (by kernel_rfl) (fun _ _ _ h => h) (Or.inl ⟨by rfl, by intro w hSw; go_simp; first | done | with_reducible rfl⟩) hH ?_
          simp only [List.getElem_toArray, List.getElem_cons_succ, List.getElem_cons_zero, Act.put, List.setIfInBounds_toArray, List.set_cons_zero, List.set_cons_succ]
          refine wpAnyH_take (i := 8) (v := ?_) rfl (by kernel_rfl) (by kernel_rfl) (by kernel_rfl) (fun _ _ _ h => h) (Or.inl ⟨by rfl, by intro w hSw; go_simp; first | done | with_reducible rfl⟩) hH ?_
          simp only [List.getElem_toArray, List.getElem_cons_succ, List.getElem_cons_zero, Act.put, List.setIfInBounds_toArray, List.set_cons_zero, List.set_cons_succ]
          refine wpAnyH_take (i := 9) (v := ?_) rfl (by kernel_rfl) (by kernel_rfl) (by kernel_rfl) (fun _ _ _ h => h) (Or.inl ⟨by rfl, by intro w hSw; go_simp; first | done | with_reducible rfl⟩) hH ?_
          simp only [List.getElem_toArray, List.getElem_cons_succ, List.getElem_cons_zero, Act.put, List.setIfInBounds_toArray, List.set_cons_zero, List.set_cons_succ]
          refine wpAnyH_take (i := 10) (v := ?_) rfl (by kernel_rfl) (by kernel_rfl) (by kernel_rfl) (fun _ _ _ h => h) (Or.inl ⟨by rfl, by intro w hSw; obtain ⟨s0, s1, s2, s3⟩ := hSw; go_simp; first | done | with_reducible rfl⟩) hH ?_
          simp only [List.getElem_toArray, List.getElem_cons_succ, List.getElem_cons_zero, Act.put, List.setIfInBounds_toArray, List.set_cons_zero, List.set_cons_succ]
          refine wpAnyH_take (i := 11) (v := ?_) rfl (by kernel_rfl) (by kernel_rfl) (by kernel_rfl) (fun _ _ _ h => h) (Or.inl ⟨by rfl, by intro w hSw; go_simp; first | done | with_reducible rfl⟩) hH ?_
          simp only [List.getElem_toArray, List.getElem_cons_succ, List.getElem_cons_zero, Act.put, List.setIfInBounds_toArray, List.set_cons_zero, List.set_cons_succ]
          refine wpAnyH_take (i := 12) (v := ?_) rfl (by kernel_rfl) (by kernel_rfl) (by kernel_rfl) (fun _ _ _ h => h) (Or.inl ⟨by rfl, by intro w hSw; go_simp; first | done | with_reducible rfl⟩) hH ?_
          simp only [List.getElem_toArray, List.getElem_cons_succ, List.getElem_cons_zero, Act.put, List.setIfInBounds_toArray, List.set_cons_zero, List.set_cons_succ]
          refine wpAnyH_take (i := 13) (v := ?_) rfl (by kernel_rfl) (by kernel_rfl) (by kernel_rfl) (fun _ _ _ h => h) (Or.inl ⟨by rfl, by intro w hSw; go_simp; first | done | with_reducible rfl⟩) hH ?_
          simp only [List.getElem_toArray, List.getElem_cons_succ, List.getElem_cons_zero, Act.put, List.setIfInBounds_toArray, List.set_cons_zero, List.set_cons_succ]
          refine wpAnyH_take (i := 14) (v := ?_) rfl (by kernel_rfl) (by kernel_rfl) (by kernel_rfl) (fun _ _ _ h => h) (Or.inl ⟨by rfl, by intro w hSw; obtain ⟨s0, s1, s2, s3⟩ := hSw; go_simp; first | done | with_reducible rfl⟩) hH ?_
          simp only [List.getElem_toArray, List.getElem_cons_succ, List.getElem_cons_zero, Act.put, List.setIfInBounds_toArray, List.set_cons_zero, List.set_cons_succ]
          refine wpAnyH_ready (rs := [15]) (by kernel_rfl) (by simp) ?_
          refine AllReadyH.cons rfl (fun K hK => ?_) ?_
          · clear hH
            go_simp
            refine (hgd.out _).mono ?_
            rintro e' V ⟨rfl, bV⟩
            have hbE := Lib.hid (hbD.out.trans (bV.mono hbD.out.size))
            clear bV hbD; have hbD := hbE; clear hbE
            refine hK.out _ _ (hSv.out _ hbD.out) (fun hH => ?_)
            clear hK K
            refine wpAnyH_take (i := 16) (v := ?_) rfl (by kernel_rfl) (by kernel_rfl) (by kernel_rfl) (fun _ _ _ h => h) (Or.inl ⟨by rfl, by intro w hSw; go_simp; first | done | with_reducible rfl⟩) hH ?_
            simp only [List.getElem_toArray, List.getElem_cons_succ, List.getElem_cons_zero, Act.put, List.setIfInBounds_toArray, List.set_cons_zero, List.set_cons_succ]
            refine wpAnyH_take (i := 17) (v := ?_) rfl (by kernel_rfl) (by kernel_rfl) (by kernel_rfl) (fun _ _ _ h => h) (Or.inl ⟨by rfl, by intro w hSw; go_simp; first | done | with_reducible rfl⟩) hH ?_
            simp only [List.getElem_toArray, List.getElem_cons_succ, List.getElem_cons_zero, Act.put, List.setIfInBounds_toArray, List.set_cons_zero, List.set_cons_succ]
            refine wpAnyH_take (i := 18) (v := ?_) rfl (by kernel_rfl) (by kernel_rfl) (by kernel_rfl) (fun _ _ _ h => h) (Or.inl ⟨by rfl, by intro w hSw; go_simp; first | done | with_reducible rfl⟩) hH ?_
            simp only [List.getElem_toArray, List.getElem_cons_succ, List.getElem_cons_zero, Act.put, List.setIfInBounds_toArray, List.set_cons_zero, List.set_cons_succ]
            refine wpAnyH_take (i := 19) (v := ?_) rfl (by kernel_rfl) (by kernel_rfl) (by kernel_rfl) (fun _ _ _ h => h) (Or.inl ⟨by rfl, by intro w hSw; go_simp; first | done | with_reducible rfl⟩) hH ?_
            simp only [List.getElem_toArray, List.getElem_cons_succ, List.getElem_cons_zero, Act.put, List.setIfInBounds_toArray, List.set_cons_zero, List.set_cons_succ]
            refine wpAnyH_take (i := 20) (v := ?_) rfl (by kernel_rfl) (by kernel_rfl) (by kernel_rfl) (fun _ _ _ h => h) (Or.inl ⟨by rfl, by intro w hSw; go_simp; first | done | with_reducible rfl⟩) hH ?_
            simp only [List.getElem_toArray, List.getElem_cons_succ, List.getElem_cons_zero, Act.put, List.setIfInBounds_toArray, List.set_cons_zero, List.set_cons_succ]
            refine wpAnyH_take (i := 21) (v := ?_) rfl (by kernel_rfl) (by kernel_rfl) (by kernel_rfl) (fun _ _ _ h => h) (Or.inl ⟨by rfl, by intro w hSw; go_simp; first | done | with_reducible rfl⟩) hH ?_
            simp only [List.getElem_toArray, List.getElem_cons_succ, List.getElem_cons_zero, Act.put, List.setIfInBounds_toArray, List.set_cons_zero, List.set_cons_succ]
            refine wpAnyH_take (i := 22) (v := undef) rfl (by kernel_rfl) (by kernel_rfl) (by kernel_rfl) (fun _ _ _ h => h) (Or.inr ⟨by rfl, rfl⟩) hH ?_
            simp only [List.getElem_toArray, List.getElem_cons_succ, List.getElem_cons_zero, Act.put, List.setIfInBounds_toArray, List.set_cons_zero, List.set_cons_succ]
            refine wpAnyH_take (i := 23) (v := undef) rfl (by kernel_rfl) (by kernel_rfl) (by kernel_rfl) (fun _ _ _ h => h) (Or.inr ⟨by rfl, rfl⟩) hH ?_
            simp only [List.getElem_toArray, List.getElem_cons_succ, List.getElem_cons_zero, Act.put, List.setIfInBounds_toArray, List.set_cons_zero, List.set_cons_succ]
            refine wpAnyH_take (i := 24) (v := undef) rfl (by kernel_rfl) (by kernel_rfl) (by kernel_rfl) (fun _ _ _ h => h) (Or.inr ⟨by rfl, rfl⟩) hH ?_
            simp only [List.getElem_toArray, List.getElem_cons_succ, List.getElem_cons_zero, Act.put, List.setIfInBounds_toArray, List.set_cons_zero, List.set_cons_succ]
            refine wpAnyH_take (i := 25) (v := undef) rfl (by kernel_rfl) (by kernel_rfl) (by kernel_rfl) (fun _ _ _ h => h) (Or.inr ⟨by rfl, rfl⟩) hH ?_
            simp only [List.getElem_toArray, List.getElem_cons_succ, List.getElem_cons_zero, Act.put, List.setIfInBounds_toArray, List.set_cons_zero, List.set_cons_succ]
            refine wpAnyH_take (i := 26) (v := undef) rfl (by kernel_rfl) (by kernel_rfl) (by kernel_rfl) (fun _ _ _ h => h) (Or.inr ⟨by rfl, rfl⟩) hH ?_
            simp only [List.getElem_toArray, List.getElem_cons_succ, List.getElem_cons_zero, Act.put, List.setIfInBounds_toArray, List.set_cons_zero, List.set_cons_succ]
            refine wpAnyH_take (i := 27) (v := undef) rfl (by kernel_rfl) (by kernel_rfl) (by kernel_rfl) (fun _ _ _ h => h) (Or.inr ⟨by rfl, rfl⟩) hH ?_
            simp only [List.getElem_toArray, List.getElem_cons_succ, List.getElem_cons_zero, Act.put, List.setIfInBounds_toArray, List.set_cons_zero, List.set_cons_succ]
            refine wpAnyH_take (i := 28) (v := undef) rfl (by kernel_rfl) (by kernel_rfl) (by kernel_rfl) (fun _ _ _ h => h) (Or.inr ⟨by rfl, rfl⟩) hH ?_
            simp only [List.getElem_toArray, List.getElem_cons_succ, List.getElem_cons_zero, Act.put, List.setIfInBounds_toArray, List.set_cons_zero, List.set_cons_succ]
            refine wpAnyH_take (i := 29) (v := undef) rfl (by kernel_rfl) (by kernel_rfl) (by kernel_rfl) (fun _ _ _ h => h) (Or.inr ⟨by rfl, rfl⟩) hH ?_
            simp only [List.getElem_toArray, List.getElem_cons_succ, List.getElem_cons_zero, Act.put, List.setIfInBounds_toArray, List.set_cons_zero, List.set_cons_succ]
            refine wpAnyH_take (i := 30) (v := undef) rfl (by kernel_rfl) (by kernel_rfl) (by kernel_rfl) (fun _ _ _ h => h) (Or.inr ⟨by rfl, rfl⟩) hH ?_
            simp only [List.getElem_toArray, List.getElem_cons_succ, List.getElem_cons_zero, Act.put, List.setIfInBounds_toArray, List.set_cons_zero, List.set_cons_succ]
            refine wpAnyH_take (i := 31) (v := undef) rfl (by kernel_rfl) (by kernel_rfl) (by kernel_rfl) (fun _ _ _ h => h) (Or.inr ⟨by rfl, rfl⟩) hH ?_
            simp only [List.getElem_toArray, List.getElem_cons_succ, List.getElem_cons_zero, Act.put, List.setIfInBounds_toArray, List.set_cons_zero, List.set_cons_succ]
            refine wpAnyH_take (i := 32) (v := undef) rfl (by kernel_rfl) (by kernel_rfl) (by kernel_rfl) (fun _ _ _ h => h) (Or.inr ⟨by rfl, rfl⟩) hH ?_
            simp only [List.getElem_toArray, List.getElem_cons_succ, List.getElem_cons_zero, Act.put, List.setIfInBounds_toArray, List.set_cons_zero, List.set_cons_succ]
            refine wpAnyH_take (i := 33) (v := undef) rfl (by kernel_rfl) (by kernel_rfl) (by kernel_rfl) (fun _ _ _ h => h) (Or.inr ⟨by rfl, rfl⟩) hH ?_
            simp only [List.getElem_toArray, List.getElem_cons_succ, List.getElem_cons_zero, Act.put, List.setIfInBounds_toArray, List.set_cons_zero, List.set_cons_succ]
            refine wpAnyH_take (i := 34) (v := undef) rfl (by kernel_rfl) (by kernel_rfl) (by kernel_rfl) (fun _ _ _ h => h) (Or.inr ⟨by rfl, rfl⟩) hH ?_
            simp only [List.getElem_toArray, List.getElem_cons_succ, List.getElem_cons_zero, Act.put, List.setIfInBounds_toArray, List.set_cons_zero, List.set_cons_succ]
            refine wpAnyH_take (i := 35) (v := undef) rfl (by kernel_rfl) (by kernel_rfl) (by kernel_rfl) (fun _ _ _ h => h) (Or.inr ⟨by rfl, rfl⟩) hH ?_
            simp only [List.getElem_toArray, List.getElem_cons_succ, List.getElem_cons_zero, Act.put, List.setIfInBounds_toArray, List.set_cons_zero, List.set_cons_succ]
            refine wpAnyH_take (i := 36) (v := ?_) rfl (by kernel_rfl) (by kernel_rfl) (by kernel_rfl) (fun _ _ _ h => h) (Or.inl ⟨by rfl, by intro w hSw; go_simp; first | done | with_reducible rfl⟩) hH ?_
            simp only [List.getElem_toArray, List.getElem_cons_succ, List.getElem_cons_zero, Act.put, List.setIfInBounds_toArray, List.set_cons_zero, List.set_cons_succ]
            refine wpAnyH_take (i := 37) (v := ?_) rfl (by kernel_rfl) (by kernel_rfl) (by kernel_rfl) (fun _ _ _ h => h) (Or.inl ⟨by rfl, by intro w hSw; go_simp; first | done | with_reducible rfl⟩) hH ?_
            simp only [List.getElem_toArray, List.getElem_cons_succ, List.getElem_cons_zero, Act.put, List.setIfInBounds_toArray, List.set_cons_zero, List.set_cons_succ]
            refine wpAnyH_done (by kernel_rfl) ?_ _
            clear hH
            have kx2 := Lib.hid (kx.out.trans (hbD.out.mono kx.out.size))
            have hbw2 := Lib.hid (hbw.out.trans (hbD.out.mono hbw.out.size))
            clear hSv hbD kx hbw z8 c0 c1 c2
            go_wp2_with (fail)
            first | exact ⟨⟨j + 1, by omega, by go_num, hnx.out, hbw2.out⟩, by simp [intOf]; omega⟩ | exact ⟨by (repeat apply Exists.intro); exact ⟨⟨j + 1, by omega, by go_num, hnx.out, hbw2.out⟩, rfl⟩, by simp [intOf]; omega⟩
          exact AllReadyH.nil
        exact AllReadyH.nil
      obtain ⟨y, hy⟩ : ∃ y, l[j - 1]? = some y := ⟨_, List.getElem?_eq_getElem (by omega)⟩
      have hls : lastS (-1) (l.take j) = y.sl := by have := take_snoc hy; rw [show j - 1 + 1 = j from by omega] at this; rw [this, lastS_snoc]
      rw [hls] at hnext
      obtain ⟨b', o', y', e5, -, hy', d0, -, -, -⟩ := ES.at_ hE9.out (show j - 1 < l.length from by omega)
      injection e5 with e5
      injection e5 with e5 e6
      subst e5 e6
      obtain rfl : y' = y := by rw [hy] at hy'; exact (Option.some.inj hy').symm
      have jm : (j : Int) - 1 = ((j - 1 : Nat) : Int) := by omega
      have jp : (0 : Int) < (j : Int) := by omega
      have jq : 0 < j := by omega
      have jn : j - 1 < n := by omega
      have jw : IntKind.i64.wrap ((j - 1 : Nat) : Int) = ((j - 1 : Nat) : Int) := by simp [IntKind.wrap, IntKind.signed, IntKind.bits]; omega
      have jp1 : ((j - 1 : Nat) : Int) < (l.length : Int) := by omega
      by_cases h3 : x.sl ≤ y'.sl
      · have hfin := Lib.hid (show argOK (⟨2, fr, tt, ro, no, 0, nu, v, l⟩ : Mg) = false from ano5 (by show (if uL 2 = true then okL (-1) l else decide (l = [])) = false; rw [if_pos (by decide)]; exact okL_bad hx (by unfold okEnt; rw [hls, show decide (0 ≤ x.sl ∧ x.sl < 4096 ∧ y'.sl < x.sl) = false from decide_eq_false (by omega)]; rfl)))
        have hSv : ∀ W' : World, Below Y.heap.size Y W' → (fun W' : World => W'.cell? ⟨w.heap.size, 8, none⟩ = some (.slice (some ⟨b, o, none⟩) l.length c) ∧ W'.cell? ⟨b, o + j * 4, none⟩ = some (.int .i64 x.sl) ∧ W'.cell? ⟨b, o + j * 4 + 1, none⟩ = some (.int .i64 x.ro) ∧ W'.cell? ⟨b, o + j * 4 + 2, none⟩ = some (.int .i64 x.no) ∧ W'.cell? ⟨b, o + (j - 1) * 4, none⟩ = some (.int .i64 y'.sl)) W' := by
          intro W' h1
          exact ⟨(h1.cell (p := ⟨w.heap.size, 8, none⟩) lU).trans z8, (h1.cell (p := ⟨b, _, none⟩) hbl).trans c0, (h1.cell (p := ⟨b, _, none⟩) hbl).trans c1, (h1.cell (p := ⟨b, _, none⟩) hbl).trans c2, (h1.cell (p := ⟨b, _, none⟩) hbl).trans d0⟩
        replace hSv := Lib.hid hSv
        have hbD := Lib.hid ((Below.refl Y.heap.size Y).drew)
        replace hN := Lib.hid hN; replace hin := Lib.hid hin; replace hgd := Lib.hid hgd; replace hx := Lib.hid hx; replace hy := Lib.hid hy; replace hy' := Lib.hid hy'; replace hls := Lib.hid hls; clear hnext
        go_wp2_with (fail)
        refine wp_region_held_drew (S := (fun W' : World => W'.cell? ⟨w.heap.size, 8, none⟩ = some (.slice (some ⟨b, o, none⟩) l.length c) ∧ W'.cell? ⟨b, o + j * 4, none⟩ = some (.int .i64 x.sl) ∧ W'.cell? ⟨b, o + j * 4 + 1, none⟩ = some (.int .i64 x.ro) ∧ W'.cell? ⟨b, o + j * 4 + 2, none⟩ = some (.int .i64 x.no) ∧ W'.cell? ⟨b, o + (j - 1) * 4, none⟩ = some (.int .i64 y'.sl))) (by kernel_rfl) ?_ (fun hH => ?_)
        · exact hSv.out _ hbD.out
        refine wpAnyH_take (i := 0) (v := ?_) rfl (by kernel_rfl) (by kernel_rfl) (by kernel_rfl) (fun _ _ _ h => h) (Or.inl ⟨by rfl, by intro w hSw; go_simp; first | done | with_reducible rfl⟩) hH ?_
        simp only [List.getElem_toArray, List.getElem_cons_succ, List.getElem_cons_zero, Act.put, List.setIfInBounds_toArray, List.set_cons_zero, List.set_cons_succ]
        refine wpAnyH_take (i := 1) (v := ?_) rfl (by kernel_rfl) (by kernel_rfl) (by kernel_rfl) (fun _ _ _ h => h) (Or.inl ⟨by rfl, by intro w hSw; obtain ⟨s0, s1, s2, s3, s4⟩ := hSw; go_simp; first | done | with_reducible rfl⟩) hH ?_
        simp only [List.getElem_toArray, List.getElem_cons_succ, List.getElem_cons_zero, Act.put, List.setIfInBounds_toArray, List.set_cons_zero, List.set_cons_succ]
        refine wpAnyH_take (i := 2) (v := ?_) rfl (by kernel_rfl) (by kernel_rfl) (by kernel_rfl) (fun _ _ _ h => h) (Or.inl ⟨by rfl, by intro w hSw; go_simp; first | done | with_reducible rfl⟩) hH ?_
        simp only [List.getElem_toArray, List.getElem_cons_succ, List.getElem_cons_zero, Act.put, List.setIfInBounds_toArray, List.set_cons_zero, List.set_cons_succ]
        refine wpAnyH_take (i := 3) (v := ?_) rfl (by kernel_rfl) (by kernel_rfl) (by kernel_rfl) (fun _ _ _ h => h) (Or.inl ⟨by rfl, by intro w hSw; go_simp; first | done | with_reducible rfl⟩) hH ?_
        simp only [List.getElem_toArray, List.getElem_cons_succ, List.getElem_cons_zero, Act.put, List.setIfInBounds_toArray, List.set_cons_zero, List.set_cons_succ]
        refine wpAnyH_take (i := 4) (v := ?_) rfl (by kernel_rfl) (by kernel_rfl) (by kernel_rfl) (fun _ _ _ h => h) (Or.inl ⟨by rfl, by intro w hSw; go_simp; first | done | with_reducible rfl⟩) hH ?_
        simp only [List.getElem_toArray, List.getElem_cons_succ, List.getElem_cons_zero, Act.put, List.setIfInBounds_toArray, List.set_cons_zero, List.set_cons_succ]
        refine wpAnyH_take (i := 5) (v := ?_) rfl (by kernel_rfl) (by kernel_rfl) (by kernel_rfl) (fun _ _ _ h => h) (Or.inl ⟨by rfl, by intro w hSw; obtain ⟨s0, s1, s2, s3, s4⟩ := hSw; go_simp; first | done | with_reducible rfl⟩) hH ?_
        simp only [List.getElem_toArray, List.getElem_cons_succ, List.getElem_cons_zero, Act.put, List.setIfInBounds_toArray, List.set_cons_zero, List.set_cons_succ]
        refine wpAnyH_ready (rs := [6]) (by kernel_rfl) (by simp) ?_
        refine AllReadyH.cons rfl (fun K hK => ?_) ?_
        · clear hH
          go_simp
          refine (hin.out _).mono ?_
          rintro e' V ⟨rfl, rfl⟩
          refine hK.out _ _ (hSv.out _ hbD.out) (fun hH => ?_)
          clear hK K
          refine wpAnyH_take (i := 7) (v := ?_) rfl (by kernel_rfl) (by kernel_rfl) (by kernel_rfl) (fun _ _ _ h => h) (Or.inl ⟨by rfl, by intro w hSw; go_simp; first | done | with_reducible rfl⟩) hH ?_
          simp only [List.getElem_toArray, List.getElem_cons_succ, List.getElem_cons_zero, Act.put, List.setIfInBounds_toArray, List.set_cons_zero, List.set_cons_succ]
          refine wpAnyH_take (i := 8) (v := ?_) rfl (by kernel_rfl) (by kernel_rfl) (by kernel_rfl) (fun _ _ _ h => h) (Or.inl ⟨by rfl, by intro w hSw; go_simp; first | done | with_reducible rfl⟩) hH ?_
          simp only [List.getElem_toArray, List.getElem_cons_succ, List.getElem_cons_zero, Act.put, List.setIfInBounds_toArray, List.set_cons_zero, List.set_cons_succ]
          refine wpAnyH_take (i := 9) (v := ?_) rfl (by kernel_rfl) (by kernel_rfl) (by kernel_rfl) (fun _ _ _ h => h) (Or.inl ⟨by rfl, by intro w hSw; go_simp; first | done | with_reducible rfl⟩) hH ?_
          simp only [List.getElem_toArray, List.getElem_cons_succ, List.getElem_cons_zero, Act.put, List.setIfInBounds_toArray, List.set_cons_zero, List.set_cons_succ]
          refine wpAnyH_take (i := 10) (v := ?_) rfl (by kernel_rfl) (by kernel_rfl) (by kernel_rfl) (fun _ _ _ h => h) (Or.inl ⟨by rfl, by intro w hSw; obtain ⟨s0, s1, s2, s3, s4⟩ := hSw; go_simp; first | done | with_reducible rfl⟩) hH ?_
          simp only [List.getElem_toArray, List.getElem_cons_succ, List.getElem_cons_zero, Act.put, List.setIfInBounds_toArray, List.set_cons_zero, List.set_cons_succ]
          refine wpAnyH_take (i := 11) (v := ?_) rfl (by kernel_rfl) (by kernel_rfl) (by kernel_rfl) (fun _ _ _ h => h) (Or.inl ⟨by rfl, by intro w hSw; go_simp; first | done | with_reducible rfl⟩) hH ?_
          simp only [List.getElem_toArray, List.getElem_cons_succ, List.getElem_cons_zero, Act.put, List.setIfInBounds_toArray, List.set_cons_zero, List.set_cons_succ]
          refine wpAnyH_take (i := 12) (v := ?_) rfl (by kernel_rfl) (by kernel_rfl) (by kernel_rfl) (fun _ _ _ h => h) (Or.inl ⟨by rfl, by intro w hSw; go_simp; first | done | with_reducible rfl⟩) hH ?_
          simp only [List.getElem_toArray, List.getElem_cons_succ, List.getElem_cons_zero, Act.put, List.setIfInBounds_toArray, List.set_cons_zero, List.set_cons_succ]
          refine wpAnyH_take (i := 13) (v := ?_) rfl (by kernel_rfl) (by kernel_rfl) (by kernel_rfl) (fun _ _ _ h => h) (Or.inl ⟨by rfl, by intro w hSw; go_simp; first | done | with_reducible rfl⟩) hH ?_
          simp only [List.getElem_toArray, List.getElem_cons_succ, List.getElem_cons_zero, Act.put, List.setIfInBounds_toArray, List.set_cons_zero, List.set_cons_succ]
          refine wpAnyH_take (i := 14) (v := ?_) rfl (by kernel_rfl) (by kernel_rfl) (by kernel_rfl) (fun _ _ _ h => h) (Or.inl ⟨by rfl, by intro w hSw; obtain ⟨s0, s1, s2, s3, s4⟩ := hSw; go_simp; first | done | with_reducible rfl⟩) hH ?_
          simp only [List.getElem_toArray, List.getElem_cons_succ, List.getElem_cons_zero, Act.put, List.setIfInBounds_toArray, List.set_cons_zero, List.set_cons_succ]
          refine wpAnyH_ready (rs := [15]) (by kernel_rfl) (by simp) ?_
          refine AllReadyH.cons rfl (fun K hK => ?_) ?_
          · clear hH
            go_simp
            refine (hgd.out _).mono ?_
            rintro e' V ⟨rfl, bV⟩
            have hbE := Lib.hid (hbD.out.trans (bV.mono hbD.out.size))
            clear bV hbD; have hbD := hbE; clear hbE
            refine hK.out _ _ (hSv.out _ hbD.out) (fun hH => ?_)
            clear hK K
            refine wpAnyH_take (i := 16) (v := ?_) rfl (by kernel_rfl) (by kernel_rfl) (by kernel_rfl) (fun _ _ _ h => h) (Or.inl ⟨by rfl, by intro w hSw; go_simp; first | done | with_reducible rfl⟩) hH ?_
            simp only [List.getElem_toArray, List.getElem_cons_succ, List.getElem_cons_zero, Act.put, List.setIfInBounds_toArray, List.set_cons_zero, List.set_cons_succ]
            refine wpAnyH_take (i := 17) (v := ?_) rfl (by kernel_rfl) (by kernel_rfl) (by kernel_rfl) (fun _ _ _ h => h) (Or.inl ⟨by rfl, by intro w hSw; go_simp; first | done | with_reducible rfl⟩) hH ?_
            simp only [List.getElem_toArray, List.getElem_cons_succ, List.getElem_cons_zero, Act.put, List.setIfInBounds_toArray, List.set_cons_zero, List.set_cons_succ]
            refine wpAnyH_take (i := 18) (v := ?_) rfl (by kernel_rfl) (by kernel_rfl) (by kernel_rfl) (fun _ _ _ h => h) (Or.inl ⟨by rfl, by intro w hSw; go_simp; first | done | with_reducible rfl⟩) hH ?_
            simp only [List.getElem_toArray, List.getElem_cons_succ, List.getElem_cons_zero, Act.put, List.setIfInBounds_toArray, List.set_cons_zero, List.set_cons_succ]
            refine wpAnyH_take (i := 19) (v := ?_) rfl (by kernel_rfl) (by kernel_rfl) (by kernel_rfl) (fun _ _ _ h => h) (Or.inl ⟨by rfl, by intro w hSw; go_simp; first | done | with_reducible rfl⟩) hH ?_
            simp only [List.getElem_toArray, List.getElem_cons_succ, List.getElem_cons_zero, Act.put, List.setIfInBounds_toArray, List.set_cons_zero, List.set_cons_succ]
            refine wpAnyH_take (i := 20) (v := ?_) rfl (by kernel_rfl) (by kernel_rfl) (by kernel_rfl) (fun _ _ _ h => h) (Or.inl ⟨by rfl, by intro w hSw; go_simp; first | done | with_reducible rfl⟩) hH ?_
            simp only [List.getElem_toArray, List.getElem_cons_succ, List.getElem_cons_zero, Act.put, List.setIfInBounds_toArray, List.set_cons_zero, List.set_cons_succ]
            refine wpAnyH_take (i := 21) (v := ?_) rfl (by kernel_rfl) (by kernel_rfl) (by kernel_rfl) (fun _ _ _ h => h) (Or.inl ⟨by rfl, by intro w hSw; go_simp; first | done | with_reducible rfl⟩) hH ?_
            simp only [List.getElem_toArray, List.getElem_cons_succ, List.getElem_cons_zero, Act.put, List.setIfInBounds_toArray, List.set_cons_zero, List.set_cons_succ]
            refine wpAnyH_take (i := 22) (v := ?_) rfl (by kernel_rfl) (by kernel_rfl) (by kernel_rfl) (fun _ _ _ h => h) (Or.inl ⟨by rfl, by intro w hSw; go_simp; first | done | with_reducible rfl⟩) hH ?_
            simp only [List.getElem_toArray, List.getElem_cons_succ, List.getElem_cons_zero, Act.put, List.setIfInBounds_toArray, List.set_cons_zero, List.set_cons_succ]
            refine wpAnyH_take (i := 23) (v := ?_) rfl (by kernel_rfl) (by kernel_rfl) (by kernel_rfl) (fun _ _ _ h => h) (Or.inl ⟨by rfl, by intro w hSw; obtain ⟨s0, s1, s2, s3, s4⟩ := hSw; go_simp; first | done | with_reducible rfl⟩) hH ?_
            simp only [List.getElem_toArray, List.getElem_cons_succ, List.getElem_cons_zero, Act.put, List.setIfInBounds_toArray, List.set_cons_zero, List.set_cons_succ]
            refine wpAnyH_take (i := 24) (v := ?_) rfl (by kernel_rfl) (by kernel_rfl) (by kernel_rfl) (fun _ _ _ h => h) (Or.inl ⟨by rfl, by intro w hSw; go_simp; first | done | with_reducible rfl⟩) hH ?_
            simp only [List.getElem_toArray, List.getElem_cons_succ, List.getElem_cons_zero, Act.put, List.setIfInBounds_toArray, List.set_cons_zero, List.set_cons_succ]
            refine wpAnyH_take (i := 25) (v := ?_) rfl (by kernel_rfl) (by kernel_rfl) (by kernel_rfl) (fun _ _ _ h => h) (Or.inl ⟨by rfl, by intro w hSw; go_simp; first | done | with_reducible rfl⟩) hH ?_
            simp only [List.getElem_toArray, List.getElem_cons_succ, List.getElem_cons_zero, Act.put, List.setIfInBounds_toArray, List.set_cons_zero, List.set_cons_succ]
            refine wpAnyH_take (i := 26) (v := ?_) rfl (by kernel_rfl) (by kernel_rfl) (by kernel_rfl) (fun _ _ _ h => h) (Or.inl ⟨by rfl, by intro w hSw; go_simp; first | done | with_reducible rfl⟩) hH ?_
            simp only [List.getElem_toArray, List.getElem_cons_succ, List.getElem_cons_zero, Act.put, List.setIfInBounds_toArray, List.set_cons_zero, List.set_cons_succ]
            refine wpAnyH_take (i := 27) (v := ?_) rfl (by kernel_rfl) (by kernel_rfl) (by kernel_rfl) (fun _ _ _ h => h) (Or.inl ⟨by rfl, by intro w hSw; obtain ⟨s0, s1, s2, s3, s4⟩ := hSw; go_simp; first | done | with_reducible rfl⟩) hH ?_
            simp only [List.getElem_toArray, List.getElem_cons_succ, List.getElem_cons_zero, Act.put, List.setIfInBounds_toArray, List.set_cons_zero, List.set_cons_succ]
            refine wpAnyH_take (i := 28) (v := ?_) rfl (by kernel_rfl) (by kernel_rfl) (by kernel_rfl) (fun _ _ _ h => h) (Or.inl ⟨by rfl, by intro w hSw; go_simp; first | done | with_reducible rfl⟩) hH ?_
            simp only [List.getElem_toArray, List.getElem_cons_succ, List.getElem_cons_zero, Act.put, List.setIfInBounds_toArray, List.set_cons_zero, List.set_cons_succ]
            refine wpAnyH_take (i := 29) (v := ?_) rfl (by kernel_rfl) (by kernel_rfl) (by kernel_rfl) (fun _ _ _ h => h) (Or.inl ⟨by rfl, by intro w hSw; obtain ⟨s0, s1, s2, s3, s4⟩ := hSw; go_simp; first | done | with_reducible rfl⟩) hH ?_
            simp only [List.getElem_toArray, List.getElem_cons_succ, List.getElem_cons_zero, Act.put, List.setIfInBounds_toArray, List.set_cons_zero, List.set_cons_succ]
            refine wpAnyH_take (i := 30) (v := ?_) rfl (by kernel_rfl) (by kernel_rfl) (by kernel_rfl) (fun _ _ _ h => h) (Or.inl ⟨by rfl, by intro w hSw; go_simp; first | done | with_reducible rfl⟩) hH ?_
            simp only [List.getElem_toArray, List.getElem_cons_succ, List.getElem_cons_zero, Act.put, List.setIfInBounds_toArray, List.set_cons_zero, List.set_cons_succ]
            refine wpAnyH_take (i := 31) (v := ?_) rfl (by kernel_rfl) (by kernel_rfl) (by kernel_rfl) (fun _ _ _ h => h) (Or.inl ⟨by rfl, by intro w hSw; go_simp; first | done | with_reducible rfl⟩) hH ?_
            simp only [List.getElem_toArray, List.getElem_cons_succ, List.getElem_cons_zero, Act.put, List.setIfInBounds_toArray, List.set_cons_zero, List.set_cons_succ]
            refine wpAnyH_take (i := 32) (v := ?_) rfl (by kernel_rfl) (by kernel_rfl) (by kernel_rfl) (fun _ _ _ h => h) (Or.inl ⟨by rfl, by intro w hSw; go_simp; first | done | with_reducible rfl⟩) hH ?_
            simp only [List.getElem_toArray, List.getElem_cons_succ, List.getElem_cons_zero, Act.put, List.setIfInBounds_toArray, List.set_cons_zero, List.set_cons_succ]
            refine wpAnyH_take (i := 33) (v := ?_) rfl (by kernel_rfl) (by kernel_rfl) (by kernel_rfl) (fun _ _ _ h => h) (Or.inl ⟨by rfl, by intro w hSw; go_simp; first | done | with_reducible rfl⟩) hH ?_
            simp only [List.getElem_toArray, List.getElem_cons_succ, List.getElem_cons_zero, Act.put, List.setIfInBounds_toArray, List.set_cons_zero, List.set_cons_succ]
            refine wpAnyH_take (i := 34) (v := ?_) rfl (by kernel_rfl) (by kernel_rfl) (by kernel_rfl) (fun _ _ _ h => h) (Or.inl ⟨by rfl, by intro w hSw; obtain ⟨s0, s1, s2, s3, s4⟩ := hSw; go_simp; first | done | with_reducible rfl⟩) hH ?_
            simp only [List.getElem_toArray, List.getElem_cons_succ, List.getElem_cons_zero, Act.put, List.setIfInBounds_toArray, List.set_cons_zero, List.set_cons_succ]
            refine wpAnyH_take (i := 35) (v := ?_) rfl (by kernel_rfl) (by kernel_rfl) (by kernel_rfl) (fun _ _ _ h => h) (Or.inl ⟨by rfl, by intro w hSw; go_simp; first | done | with_reducible rfl⟩) hH ?_
            simp only [List.getElem_toArray, List.getElem_cons_succ, List.getElem_cons_zero, Act.put, List.setIfInBounds_toArray, List.set_cons_zero, List.set_cons_succ]
            refine wpAnyH_take (i := 36) (v := ?_) rfl (by kernel_rfl) (by kernel_rfl) (by kernel_rfl) (fun _ _ _ h => h) (Or.inl ⟨by rfl, by intro w hSw; go_simp; first | done | with_reducible rfl⟩) hH ?_
            simp only [List.getElem_toArray, List.getElem_cons_succ, List.getElem_cons_zero, Act.put, List.setIfInBounds_toArray, List.set_cons_zero, List.set_cons_succ]
            refine wpAnyH_take (i := 37) (v := ?_) rfl (by kernel_rfl) (by kernel_rfl) (by kernel_rfl) (fun _ _ _ h => h) (Or.inl ⟨by rfl, by intro w hSw; go_simp; first | done | with_reducible rfl⟩) hH ?_
            simp only [List.getElem_toArray, List.getElem_cons_succ, List.getElem_cons_zero, Act.put, List.setIfInBounds_toArray, List.set_cons_zero, List.set_cons_succ]
            refine wpAnyH_done (by kernel_rfl) ?_ _
            clear hH
            have kx2 := Lib.hid (kx.out.trans (hbD.out.mono kx.out.size))
            have hbw2 := Lib.hid (hbw.out.trans (hbD.out.mono hbw.out.size))
            clear hSv hbD kx hbw z8 c0 c1 c2
            clear d0
            go_wp2_with (fail)
            go_ret
            exact ⟨by rw [hfin.out]; rfl, kx2.out⟩
          exact AllReadyH.nil
        exact AllReadyH.nil
      have hnx := Lib.hid (hnext (by omega))
      have hSv : ∀ W' : World, Below Y.heap.size Y W' → (fun W' : World => W'.cell? ⟨w.heap.size, 8, none⟩ = some (.slice (some ⟨b, o, none⟩) l.length c) ∧ W'.cell? ⟨b, o + j * 4, none⟩ = some (.int .i64 x.sl) ∧ W'.cell? ⟨b, o + j * 4 + 1, none⟩ = some (.int .i64 x.ro) ∧ W'.cell? ⟨b, o + j * 4 + 2, none⟩ = some (.int .i64 x.no) ∧ W'.cell? ⟨b, o + (j - 1) * 4, none⟩ = some (.int .i64 y'.sl)) W' := by
        intro W' h1
        exact ⟨(h1.cell (p := ⟨w.heap.size, 8, none⟩) lU).trans z8, (h1.cell (p := ⟨b, _, none⟩) hbl).trans c0, (h1.cell (p := ⟨b, _, none⟩) hbl).trans c1, (h1.cell (p := ⟨b, _, none⟩) hbl).trans c2, (h1.cell (p := ⟨b, _, none⟩) hbl).trans d0⟩
      replace hSv := Lib.hid hSv
      have hbD := Lib.hid ((Below.refl Y.heap.size Y).drew)
      replace hN := Lib.hid hN; replace hin := Lib.hid hin; replace hgd := Lib.hid hgd; replace hx := Lib.hid hx; replace hy := Lib.hid hy; replace hy' := Lib.hid hy'; replace hls := Lib.hid hls; clear hnext
      go_wp2_with (fail)
      refine wp_region_held_drew (S := (fun W' : World => W'.cell? ⟨w.heap.size, 8, none⟩ = some (.slice (some ⟨b, o, none⟩) l.length c) ∧ W'.cell? ⟨b, o + j * 4, none⟩ = some (.int .i64 x.sl) ∧ W'.cell? ⟨b, o + j * 4 + 1, none⟩ = some (.int .i64 x.ro) ∧ W'.cell? ⟨b, o + j * 4 + 2, none⟩ = some (.int .i64 x.no) ∧ W'.cell? ⟨b, o + (j - 1) * 4, none⟩ = some (.int .i64 y'.sl))) (by kernel_rfl) ?_ (fun hH => ?_)
      · exact hSv.out _ hbD.out
      refine wpAnyH_take (i := 0) (v := ?_) rfl (by kernel_rfl) (by kernel_rfl) (by kernel_rfl) (fun _ _ _ h => h) (Or.inl ⟨by rfl, by intro w hSw; go_simp; first | done | with_reducible rfl⟩) hH ?_
      simp only [List.getElem_toArray, List.getElem_cons_succ, List.getElem_cons_zero, Act.put, List.setIfInBounds_toArray, List.set_cons_zero, List.set_cons_succ]
      refine wpAnyH_take (i := 1) (v := ?_) rfl (by kernel_rfl) (by kernel_rfl) (by kernel_rfl) (fun _ _ _ h => h) (Or.inl ⟨by rfl, by intro w hSw; obtain ⟨s0, s1, s2, s3, s4⟩ := hSw; go_simp; first | done | with_reducible rfl⟩) hH ?_
      simp only [List.getElem_toArray, List.getElem_cons_succ, List.getElem_cons_zero, Act.put, List.setIfInBounds_toArray, List.set_cons_zero, List.set_cons_succ]
      refine wpAnyH_take (i := 2) (v := ?_) rfl (by kernel_rfl) (by kernel_rfl) (by kernel_rfl) (fun _ _ _ h => h) (Or.inl ⟨by rfl, by intro w hSw; go_simp; first | done | with_reducible rfl⟩) hH ?_
      simp only [List.getElem_toArray, List.getElem_cons_succ, List.getElem_cons_zero, Act.put, List.setIfInBounds_toArray, List.set_cons_zero, List.set_cons_succ]
      refine wpAnyH_take (i := 3) (v := ?_) rfl (by kernel_rfl) (by kernel_rfl) (by kernel_rfl) (fun _ _ _ h => h) (Or.inl ⟨by rfl, by intro w hSw; go_simp; first | done | with_reducible rfl⟩) hH ?_
      simp only [List.getElem_toArray, List.getElem_cons_succ, List.getElem_cons_zero, Act.put, List.setIfInBounds_toArray, List.set_cons_zero, List.set_cons_succ]
      refine wpAnyH_take (i := 4) (v := ?_) rfl (by kernel_rfl) (by kernel_rfl) (by kernel_rfl) (fun _ _ _ h => h) (Or.inl ⟨by rfl, by intro w hSw; go_simp; first | done | with_reducible rfl⟩) hH ?_
      simp only [List.getElem_toArray, List.getElem_cons_succ, List.getElem_cons_zero, Act.put, List.setIfInBounds_toArray, List.set_cons_zero, List.set_cons_succ]
      refine wpAnyH_take (i := 5) (v := ?_) rfl (by kernel_rfl) (by kernel_rfl) (by kernel_rfl) (fun _ _ _ h => h) (Or.inl ⟨by rfl, by intro w hSw; obtain ⟨s0, s1, s2, s3, s4⟩ := hSw; go_simp; first | done | with_reducible rfl⟩) hH ?_
      simp only [List.getElem_toArray, List.getElem_cons_succ, List.getElem_cons_zero, Act.put, List.setIfInBounds_toArray, List.set_cons_zero, List.set_cons_succ]
      refine wpAnyH_ready (rs := [6]) (by kernel_rfl) (by simp) ?_
      refine AllReadyH.cons rfl (fun K hK => ?_) ?_
      · clear hH
        go_simp
        refine (hin.out _).mono ?_
        rintro e' V ⟨rfl, rfl⟩
        refine hK.out _ _ (hSv.out _ hbD.out) (fun hH => ?_)
        clear hK K
        refine wpAnyH_take (i := 7) (v := ?_) rfl (by kernel_rfl) (by kernel_rfl) (by kernel_rfl) (fun _ _ _ h => h) (Or.inl ⟨by rfl, by intro w hSw; go_simp; first | done | with_reducible rfl⟩) hH ?_
        simp only [List.getElem_toArray, List.getElem_cons_succ, List.getElem_cons_zero, Act.put, List.setIfInBounds_toArray, List.set_cons_zero, List.set_cons_succ]
        refine wpAnyH_take (i := 8) (v := ?_) rfl (by kernel_rfl) (by kernel_rfl) (by kernel_rfl) (fun _ _ _ h => h) (Or.inl ⟨by rfl, by intro w hSw; go_simp; first | done | with_reducible rfl⟩) hH ?_
        simp only [List.getElem_toArray, List.getElem_cons_succ, List.getElem_cons_zero, Act.put, List.setIfInBounds_toArray, List.set_cons_zero, List.set_cons_succ]
        refine wpAnyH_take (i := 9) (v := ?_) rfl (by kernel_rfl) (by kernel_rfl) (by kernel_rfl) (fun _ _ _ h => h) (Or.inl ⟨by rfl, by intro w hSw; go_simp; first | done | with_reducible rfl⟩) hH ?_
        simp only [List.getElem_toArray, List.getElem_cons_succ, List.getElem_cons_zero, Act.put, List.setIfInBounds_toArray, List.set_cons_zero, List.set_cons_succ]
        refine wpAnyH_take (i := 10) (v := ?_) rfl (by kernel_rfl) (by kernel_rfl) (by kernel_rfl) (fun _ _ _ h => h) (Or.inl ⟨by rfl, by intro w hSw; obtain ⟨s0, s1, s2, s3, s4⟩ := hSw; go_simp; first | done | with_reducible rfl⟩) hH ?_
        simp only [List.getElem_toArray, List.getElem_cons_succ, List.getElem_cons_zero, Act.put, List.setIfInBounds_toArray, List.set_cons_zero, List.set_cons_succ]
        refine wpAnyH_take (i := 11) (v := ?_) rfl (by kernel_rfl) (by kernel_rfl) (by kernel_rfl) (fun _ _ _ h => h) (Or.inl ⟨by rfl, by intro w hSw; go_simp; first | done | with_reducible rfl⟩) hH ?_
        simp only [List.getElem_toArray, List.getElem_cons_succ, List.getElem_cons_zero, Act.put, List.setIfInBounds_toArray, List.set_cons_zero, List.set_cons_succ]
        refine wpAnyH_take (i := 12) (v := ?_) rfl (by kernel_rfl) (by kernel_rfl) (by kernel_rfl) (fun _ _ _ h => h) (Or.inl ⟨by rfl, by intro w hSw; go_simp; first | done | with_reducible rfl⟩) hH ?_
        simp only [List.getElem_toArray, List.getElem_cons_succ, List.getElem_cons_zero, Act.put, List.setIfInBounds_toArray, List.set_cons_zero, List.set_cons_succ]
        refine wpAnyH_take (i := 13) (v := ?_) rfl (by kernel_rfl) (by kernel_rfl) (by kernel_rfl) (fun _ _ _ h => h) (Or.inl ⟨by rfl, by intro w hSw; go_simp; first | done | with_reducible rfl⟩) hH ?_
        simp only [List.getElem_toArray, List.getElem_cons_succ, List.getElem_cons_zero, Act.put, List.setIfInBounds_toArray, List.set_cons_zero, List.set_cons_succ]
        refine wpAnyH_take (i := 14) (v := ?_) rfl (by kernel_rfl) (by kernel_rfl) (by kernel_rfl) (fun _ _ _ h => h) (Or.inl ⟨by rfl, by intro w hSw; obtain ⟨s0, s1, s2, s3, s4⟩ := hSw; go_simp; first | done | with_reducible rfl⟩) hH ?_
        simp only [List.getElem_toArray, List.getElem_cons_succ, List.getElem_cons_zero, Act.put, List.setIfInBounds_toArray, List.set_cons_zero, List.set_cons_succ]
        refine wpAnyH_ready (rs := [15]) (by kernel_rfl) (by simp) ?_
        refine AllReadyH.cons rfl (fun K hK => ?_) ?_
        · clear hH
          go_simp
          refine (hgd.out _).mono ?_
          rintro e' V ⟨rfl, bV⟩
          have hbE := Lib.hid (hbD.out.trans (bV.mono hbD.out.size))
          clear bV hbD; have hbD := hbE; clear hbE
          refine hK.out _ _ (hSv.out _ hbD.out) (fun hH => ?_)
          clear hK K
          refine wpAnyH_take (i := 16) (v := ?_) rfl (by kernel_rfl) (by kernel_rfl) (by kernel_rfl) (fun _ _ _ h => h) (Or.inl ⟨by rfl, by intro w hSw; go_simp; first | done | with_reducible rfl⟩) hH ?_
          simp only [List.getElem_toArray, List.getElem_cons_succ, List.getElem_cons_zero, Act.put, List.setIfInBounds_toArray, List.set_cons_zero, List.set_cons_succ]
          refine wpAnyH_take (i := 17) (v := ?_) rfl (by kernel_rfl) (by kernel_rfl) (by kernel_rfl) (fun _ _ _ h => h) (Or.inl ⟨by rfl, by intro w hSw; go_simp; first | done | with_reducible rfl⟩) hH ?_
          simp only [List.getElem_toArray, List.getElem_cons_succ, List.getElem_cons_zero, Act.put, List.setIfInBounds_toArray, List.set_cons_zero, List.set_cons_succ]
          refine wpAnyH_take (i := 18) (v := ?_) rfl (by kernel_rfl) (by kernel_rfl) (by kernel_rfl) (fun _ _ _ h => h) (Or.inl ⟨by rfl, by intro w hSw; go_simp; first | done | with_reducible rfl⟩) hH ?_
          simp only [List.getElem_toArray, List.getElem_cons_succ, List.getElem_cons_zero, Act.put, List.setIfInBounds_toArray, List.set_cons_zero, List.set_cons_succ]
          refine wpAnyH_take (i := 19) (v := ?_) rfl (by kernel_rfl) (by kernel_rfl) (by kernel_rfl) (fun _ _ _ h => h) (Or.inl ⟨by rfl, by intro w hSw; go_simp; first | done | with_reducible rfl⟩) hH ?_
          simp only [List.getElem_toArray, List.getElem_cons_succ, List.getElem_cons_zero, Act.put, List.setIfInBounds_toArray, List.set_cons_zero, List.set_cons_succ]
          refine wpAnyH_take (i := 20) (v := ?_) rfl (by kernel_rfl) (by kernel_rfl) (by kernel_rfl) (fun _ _ _ h => h) (Or.inl ⟨by rfl, by intro w hSw; go_simp; first | done | with_reducible rfl⟩) hH ?_
          simp only [List.getElem_toArray, List.getElem_cons_succ, List.getElem_cons_zero, Act.put, List.setIfInBounds_toArray, List.set_cons_zero, List.set_cons_succ]
          refine wpAnyH_take (i := 21) (v := ?_) rfl (by kernel_rfl) (by kernel_rfl) (by kernel_rfl) (fun _ _ _ h => h) (Or.inl ⟨by rfl, by intro w hSw; go_simp; first | done | with_reducible rfl⟩) hH ?_
          simp only [List.getElem_toArray, List.getElem_cons_succ, List.getElem_cons_zero, Act.put, List.setIfInBounds_toArray, List.set_cons_zero, List.set_cons_succ]
          refine wpAnyH_take (i := 22) (v := ?_) rfl (by kernel_rfl) (by kernel_rfl) (by kernel_rfl) (fun _ _ _ h => h) (Or.inl ⟨by rfl, by intro w hSw; go_simp; first | done | with_reducible rfl⟩) hH ?_
          simp only [List.getElem_toArray, List.getElem_cons_succ, List.getElem_cons_zero, Act.put, List.setIfInBounds_toArray, List.set_cons_zero, List.set_cons_succ]
          refine wpAnyH_take (i := 23) (v := ?_) rfl (by kernel_rfl) (by kernel_rfl) (by kernel_rfl) (fun _ _ _ h => h) (Or.inl ⟨by rfl, by intro w hSw; obtain ⟨s0, s1, s2, s3, s4⟩ := hSw; go_simp; first | done | with_reducible rfl⟩) hH ?_
          simp only [List.getElem_toArray, List.getElem_cons_succ, List.getElem_cons_zero, Act.put, List.setIfInBounds_toArray, List.set_cons_zero, List.set_cons_succ]
          refine wpAnyH_take (i := 24) (v := ?_) rfl (by kernel_rfl) (by kernel_rfl) (by kernel_rfl) (fun _ _ _ h => h) (Or.inl ⟨by rfl, by intro w hSw; go_simp; first | done | with_reducible rfl⟩) hH ?_
          simp only [List.getElem_toArray, List.getElem_cons_succ, List.getElem_cons_zero, Act.put, List.setIfInBounds_toArray, List.set_cons_zero, List.set_cons_succ]
          refine wpAnyH_take (i := 25) (v := ?_) rfl (by kernel_rfl) (by kernel_rfl) (by kernel_rfl) (fun _ _ _ h => h) (Or.inl ⟨by rfl, by intro w hSw; go_simp; first | done | with_reducible rfl⟩) hH ?_
          simp only [List.getElem_toArray, List.getElem_cons_succ, List.getElem_cons_zero, Act.put, List.setIfInBounds_toArray, List.set_cons_zero, List.set_cons_succ]
          refine wpAnyH_take (i := 26) (v := ?_) rfl (by kernel_rfl) (by kernel_rfl) (by kernel_rfl) (fun _ _ _ h => h) (Or.inl ⟨by rfl, by intro w hSw; go_simp; first | done | with_reducible rfl⟩) hH ?_
          simp only [List.getElem_toArray, List.getElem_cons_succ, List.getElem_cons_zero, Act.put, List.setIfInBounds_toArray, List.set_cons_zero, List.set_cons_succ]
          refine wpAnyH_take (i := 27) (v := ?_) rfl (by kernel_rfl) (by kernel_rfl) (by kernel_rfl) (fun _ _ _ h => h) (Or.inl ⟨by rfl, by intro w hSw; obtain ⟨s0, s1, s2, s3, s4⟩ := hSw; go_simp; first | done | with_reducible rfl⟩) hH ?_
          simp only [List.getElem_toArray, List.getElem_cons_succ, List.getElem_cons_zero, Act.put, List.setIfInBounds_toArray, List.set_cons_zero, List.set_cons_succ]
          refine wpAnyH_take (i := 28) (v := ?_) rfl (by kernel_rfl) (by kernel_rfl) (by kernel_rfl) (fun _ _ _ h => h) (Or.inl ⟨by rfl, by intro w hSw; go_simp; first | done | with_reducible rfl⟩) hH ?_
          simp only [List.getElem_toArray, List.getElem_cons_succ, List.getElem_cons_zero, Act.put, List.setIfInBounds_toArray, List.set_cons_zero, List.set_cons_succ]
          refine wpAnyH_take (i := 29) (v := ?_) rfl (by kernel_rfl) (by kernel_rfl) (by kernel_rfl) (fun _ _ _ h => h) (Or.inl ⟨by rfl, by intro w hSw; obtain ⟨s0, s1, s2, s3, s4⟩ := hSw; go_simp; first | done | with_reducible rfl⟩) hH ?_
          simp only [List.getElem_toArray, List.getElem_cons_succ, List.getElem_cons_zero, Act.put, List.setIfInBounds_toArray, List.set_cons_zero, List.set_cons_succ]
          refine wpAnyH_take (i := 30) (v := ?_) rfl (by kernel_rfl) (by kernel_rfl) (by kernel_rfl) (fun _ _ _ h => h) (Or.inl ⟨by rfl, by intro w hSw; go_simp; first | done | with_reducible rfl⟩) hH ?_
          simp only [List.getElem_toArray, List.getElem_cons_succ, List.getElem_cons_zero, Act.put, List.setIfInBounds_toArray, List.set_cons_zero, List.set_cons_succ]
          refine wpAnyH_take (i := 31) (v := ?_) rfl (by kernel_rfl) (by kernel_rfl) (by kernel_rfl) (fun _ _ _ h => h) (Or.inl ⟨by rfl, by intro w hSw; go_simp; first | done | with_reducible rfl⟩) hH ?_
          simp only [List.getElem_toArray, List.getElem_cons_succ, List.getElem_cons_zero, Act.put, List.setIfInBounds_toArray, List.set_cons_zero, List.set_cons_succ]
          refine wpAnyH_take (i := 32) (v := ?_) rfl (by kernel_rfl) (by kernel_rfl) (by kernel_rfl) (fun _ _ _ h => h) (Or.inl ⟨by rfl, by intro w hSw; go_simp; first | done | with_reducible rfl⟩) hH ?_
          simp only [List.getElem_toArray, List.getElem_cons_succ, List.getElem_cons_zero, Act.put, List.setIfInBounds_toArray, List.set_cons_zero, List.set_cons_succ]
          refine wpAnyH_take (i := 33) (v := ?_) rfl (by kernel_rfl) (by kernel_rfl) (by kernel_rfl) (fun _ _ _ h => h) (Or.inl ⟨by rfl, by intro w hSw; go_simp; first | done | with_reducible rfl⟩) hH ?_
          simp only [List.getElem_toArray, List.getElem_cons_succ, List.getElem_cons_zero, Act.put, List.setIfInBounds_toArray, List.set_cons_zero, List.set_cons_succ]
          refine wpAnyH_take (i := 34) (v := ?_) rfl (by kernel_rfl) (by kernel_rfl) (by kernel_rfl) (fun _ _ _ h => h) (Or.inl ⟨by rfl, by intro w hSw; obtain ⟨s0, s1, s2, s3, s4⟩ := hSw; go_simp; first | done | with_reducible rfl⟩) hH ?_
          simp only [List.getElem_toArray, List.getElem_cons_succ, List.getElem_cons_zero, Act.put, List.setIfInBounds_toArray, List.set_cons_zero, List.set_cons_succ]
          refine wpAnyH_take (i := 35) (v := ?_) rfl (by kernel_rfl) (by kernel_rfl) (by kernel_rfl) (fun _ _ _ h => h) (Or.inl ⟨by rfl, by intro w hSw; go_simp; first | done | with_reducible rfl⟩) hH ?_
          simp only [List.getElem_toArray, List.getElem_cons_succ, List.getElem_cons_zero, Act.put, List.setIfInBounds_toArray, List.set_cons_zero, List.set_cons_succ]
          refine wpAnyH_take (i := 36) (v := ?_) rfl (by kernel_rfl) (by kernel_rfl) (by kernel_rfl) (fun _ _ _ h => h) (Or.inl ⟨by rfl, by intro w hSw; go_simp; first | done | with_reducible rfl⟩) hH ?_
          simp only [List.getElem_toArray, List.getElem_cons_succ, List.getElem_cons_zero, Act.put, List.setIfInBounds_toArray, List.set_cons_zero, List.set_cons_succ]
          refine wpAnyH_take (i := 37) (v := ?_) rfl (by kernel_rfl) (by kernel_rfl) (by kernel_rfl) (fun _ _ _ h => h) (Or.inl ⟨by rfl, by intro w hSw; go_simp; first | done | with_reducible rfl⟩) hH ?_
          simp only [List.getElem_toArray, List.getElem_cons_succ, List.getElem_cons_zero, Act.put, List.setIfInBounds_toArray, List.set_cons_zero, List.set_cons_succ]
          refine wpAnyH_done (by kernel_rfl) ?_ _
          clear hH
          have kx2 := Lib.hid (kx.out.trans (hbD.out.mono kx.out.size))
          have hbw2 := Lib.hid (hbw.out.trans (hbD.out.mono hbw.out.size))
          clear hSv hbD kx hbw z8 c0 c1 c2
          clear d0
          go_wp2_with (fail)
          first | exact ⟨⟨j + 1, by omega, by go_num, hnx.out, hbw2.out⟩, by simp [intOf]; omega⟩ | exact ⟨by (repeat apply Exists.intro); exact ⟨⟨j + 1, by omega, by go_num, hnx.out, hbw2.out⟩, rfl⟩, by simp [intOf]; omega⟩
        exact AllReadyH.nil
      exact AllReadyH.nil
    · obtain rfl : j = n := by omega
      have p5 := Lib.hid (show fL (⟨2, fr, tt, ro, no, 0, nu, v, l⟩ : Mg) = true from by show (if uL 2 = true then okL (-1) l else decide (l = [])) = true; rw [if_pos (by decide)]; rw [List.take_of_length_le (by omega)] at hok; exact hok)
      have hfin := Lib.hid (argOK_mk hhd.out p1.out p2.out p3.out p4.out p5.out)
      have j1 : ¬ (j : Int) < (l.length : Int) := by omega
      clear j1'
      replace hN := Lib.hid hN
      replace hbw := Lib.hid hbw; replace hok := Lib.hid hok; replace hE9 := Lib.hid hE9
      go_wp2_with (fail)
      go_ret
      exact ⟨by rw [hfin.out]; rfl, kx.out⟩
end Go.Proofs.YtlinjanflenljaaGreatDoor

namespace Go.Proofs.YtlinjanflenljaaGreatDoor
open Go.RowKit
set_option linter.unusedSimpArgs false
set_option linter.unusedVariables false
set_option linter.unusedSectionVars false
set_option maxRecDepth 10000
set_option maxHeartbeats 4000000 in
theorem rvalid_bad (k fr tt ro no sl nu : Int) (v : List UInt8) (l : List Ent) (A : Option Addr) (c : Nat) (w : World) (hd : ¬ (1 ≤ k ∧ k ≤ 11 ∧ 0 ≤ fr ∧ fr ≤ 55 ∧ 0 ≤ tt ∧ tt ≤ 55 ∧ fr ≠ tt)) :
    Calls Tryz.prog 51 #[.agg #[.int .i64 k, .int .i64 fr, .int .i64 tt, .int .i64 ro, .int .i64 no, .int .i64 sl, .int .i64 nu, .string (sOf v), .slice A l.length c]] w fun e w' => e = .returned (.bool false) ∧ Below w.heap.size w w' := by
  have kb := (Below.refl _ w).alloc (Nat.le_refl _) (.cells #[.int .i64 k, .int .i64 fr, .int .i64 tt, .int .i64 ro, .int .i64 no, .int .i64 sl, .int .i64 nu, .string (sOf v), .slice A l.length c] 28)
  have i1 := fun W => rin_any k 1 11 W
  have i2 := fun W => rin_any fr 0 55 W
  have i3 := fun W => rin_any tt 0 55 W
  by_cases h1 : 1 ≤ k ∧ k ≤ 11
  · rw [show inB k 1 11 = true from decide_eq_true h1] at i1
    by_cases h2 : 0 ≤ fr ∧ fr ≤ 55
    · rw [show inB fr 0 55 = true from decide_eq_true h2] at i2
      by_cases h3 : 0 ≤ tt ∧ tt ≤ 55
      · rw [show inB tt 0 55 = true from decide_eq_true h3] at i3
        obtain rfl : fr = tt := by omega
        clear hd h1 h2 h3
        replace kb := Lib.hid kb
        go_enter Tryz.func51, Tryz.ntmps51
        go_wp2_with (fail)
        refine (i1 _).mono ?_
        rintro e w1 ⟨rfl, rfl⟩
        go_wp2_with (fail)
        refine (i2 _).mono ?_
        rintro e w1 ⟨rfl, rfl⟩
        go_wp2_with (fail)
        refine (i3 _).mono ?_
        rintro e w1 ⟨rfl, rfl⟩
        go_wp2_with (fail)
        go_ret
        exact ⟨rfl, kb.out⟩
      · rw [show inB tt 0 55 = false from decide_eq_false h3] at i3
        clear hd h1 h2 h3
        replace kb := Lib.hid kb
        go_enter Tryz.func51, Tryz.ntmps51
        go_wp2_with (fail)
        refine (i1 _).mono ?_
        rintro e w1 ⟨rfl, rfl⟩
        go_wp2_with (fail)
        refine (i2 _).mono ?_
        rintro e w1 ⟨rfl, rfl⟩
        go_wp2_with (fail)
        refine (i3 _).mono ?_
        rintro e w1 ⟨rfl, rfl⟩
        go_wp2_with (fail)
        go_ret
        exact ⟨rfl, kb.out⟩
    · rw [show inB fr 0 55 = false from decide_eq_false h2] at i2
      clear hd h1 h2 i3
      replace kb := Lib.hid kb
      go_enter Tryz.func51, Tryz.ntmps51
      go_wp2_with (fail)
      refine (i1 _).mono ?_
      rintro e w1 ⟨rfl, rfl⟩
      go_wp2_with (fail)
      refine (i2 _).mono ?_
      rintro e w1 ⟨rfl, rfl⟩
      go_wp2_with (fail)
      go_ret
      exact ⟨rfl, kb.out⟩
  · rw [show inB k 1 11 = false from decide_eq_false h1] at i1
    clear hd h1 i2 i3
    replace kb := Lib.hid kb
    go_enter Tryz.func51, Tryz.ntmps51
    go_wp2_with (fail)
    refine (i1 _).mono ?_
    rintro e w1 ⟨rfl, rfl⟩
    go_wp2_with (fail)
    go_ret
    exact ⟨rfl, kb.out⟩
theorem rvalid_any (m : Mg) (A : Option Addr) (c : Nat) (w : World) (hE : ES w A m.l.length m.l) (hn : m.l.length ≤ 70368744177664) :
    Calls Tryz.prog 51 #[.agg #[.int .i64 m.k, .int .i64 m.fr, .int .i64 m.tt, .int .i64 m.ro, .int .i64 m.no, .int .i64 m.sl, .int .i64 m.nu, .string (sOf m.v), .slice A m.l.length c]] w fun e w' => e = .returned (.bool (argOK m)) ∧ Below w.heap.size w w' := by
  obtain ⟨k, fr, tt, ro, no, sl, nu, v, l⟩ := m
  dsimp only at hE hn ⊢
  by_cases hd : 1 ≤ k ∧ k ≤ 11 ∧ 0 ≤ fr ∧ fr ≤ 55 ∧ 0 ≤ tt ∧ tt ≤ 55 ∧ fr ≠ tt
  · obtain ⟨d1, d2, d3⟩ := hd
    have hk : k = 1 ∨ k = 2 ∨ k = 3 ∨ k = 4 ∨ k = 5 ∨ k = 6 ∨ k = 7 ∨ k = 8 ∨ k = 9 ∨ k = 10 ∨ k = 11 := by omega
    rcases hk with rfl | rfl | rfl | rfl | rfl | rfl | rfl | rfl | rfl | rfl | rfl
    · exact rvalid_1 fr tt ro no sl nu v l A c w hE hn d3
    · exact rvalid_2 fr tt ro no sl nu v l A c w hE hn d3
    · exact rvalid_3 fr tt ro no sl nu v l A c w hE hn d3
    · exact rvalid_4 fr tt ro no sl nu v l A c w hE hn d3
    · exact rvalid_5 fr tt ro no sl nu v l A c w hE hn d3
    · exact rvalid_6 fr tt ro no sl nu v l A c w hE hn d3
    · exact rvalid_7 fr tt ro no sl nu v l A c w hE hn d3
    · exact rvalid_8 fr tt ro no sl nu v l A c w hE hn d3
    · exact rvalid_9 fr tt ro no sl nu v l A c w hE hn d3
    · exact rvalid_10 fr tt ro no sl nu v l A c w hE hn d3
    · exact rvalid_11 fr tt ro no sl nu v l A c w hE hn d3
  · have hf : argOK (⟨k, fr, tt, ro, no, sl, nu, v, l⟩ : Mg) = false := by unfold argOK headOK; rw [decide_eq_false hd]; rfl
    rw [hf]
    exact rvalid_bad k fr tt ro no sl nu v l A c w hd
end Go.Proofs.YtlinjanflenljaaGreatDoor
