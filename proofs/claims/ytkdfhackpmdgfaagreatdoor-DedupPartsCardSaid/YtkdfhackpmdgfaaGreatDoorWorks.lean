/- What works says. -/
import Derived.Test.YtkdfhackpmdgfaaGreatDoorTb
namespace Go.Proofs.YtkdfhackpmdgfaaGreatDoor
open Go.RowKit Go.Shelf
set_option linter.unusedSimpArgs false
set_option linter.unusedVariables false
set_option linter.unusedSectionVars false
set_option maxRecDepth 10000
theorem effect_any (a b c : Int) (w : World) : Calls Tryz.prog 21 #[.int .i64 a, .int .i64 b, .int .i64 c] w fun e w' => e = .returned (.agg #[.int .i64 a, .int .i64 b, .int .i64 c]) ∧ Below w.heap.size w w' := by
  have kb := ((Below.refl w.heap.size w).alloc (Nat.le_refl _) (.cells #[.int .i64 0, .int .i64 0, .int .i64 0] 39))
  go_enter Tryz.func21, Tryz.ntmps21
  go_wp2
  refine bodyPost_ret (by simp [results, Tryz.results21, go_sem, *]; try with_reducible rfl) rfl ?_
  refine ⟨rfl, ?_⟩
  repeat (first | exact Below.refl _ _ | (refine Below.setCell ?_ (by simp <;> omega) _) | (refine Below.alloc ?_ (by simp) _))
theorem es_row (W : World) (l : List Ef) (cs : Array Value) (h : cs.toList = flat encE l) (hm : l.length ≤ 1000) : ES (W.alloc (.cells cs 39)) (some ⟨W.heap.size, 0, none⟩) l.length l := by
  have hl : cs.size = l.length * 3 := by rw [← Array.length_toList (xs := cs), h, flat_length encE_len]
  exact SL.of_own (base := 0) (c := l.length) encE_len (own_mk (Nat.zero_le _) (hpNew W _) (Nat.le_refl _) (by unfold maxLen; omega) hl (by rw [flat_length encE_len]) (by rw [h, List.take_of_length_le (by rw [flat_length encE_len]; omega)])) rfl
theorem tb_new {w w1 : World} {size : Int} (ht : TabP w.heap.size w.heap.size size none 0 [] w1) (hb : Below w.heap.size w w1) : Tb w.heap.size w w.heap.size size [] w1 := ⟨⟨_, _, ht⟩, hb, hb.size, List.Pairwise.nil, by simp⟩
def wA : En := ⟨(1, 0, 1), ⟨#[98]⟩, (0, 5, noText)⟩
def wB : En := ⟨(1, 1, 1), ⟨#[100]⟩, (7, 0, noText)⟩
def wC : En := ⟨(1, 0, 2), ⟨#[98]⟩, (0, 0, noText)⟩
def wP : List En := putL 3 (putL 3 (putL 3 [] wA) wB) wC
theorem w_a : putC 3 [] wA = 0 := by decide +kernel
theorem w_b : putC 3 (putL 3 [] wA) wB = 0 := by decide +kernel
theorem w_c : putC 3 (putL 3 (putL 3 [] wA) wB) wC = 0 := by decide +kernel
theorem w_t : takeC (⟨#[97]⟩, ⟨#[99]⟩) = 0 := by decide +kernel
theorem w_o : takeO (⟨#[97]⟩, ⟨#[99]⟩) wP = [(1, 0, 1), (1, 0, 2)] := by decide +kernel
theorem w_l : (takeL (⟨#[97]⟩, ⟨#[99]⟩) wP).map En.e = [(1, 1, 1)] := by decide +kernel
theorem w_n : (3 : Int) - (takeL (⟨#[97]⟩, ⟨#[99]⟩) wP).length = 2 := by decide +kernel
theorem w_g : getR wP (1, 0, 1) = (0, 5, noText) ∧ hasB wP (1, 0, 1) = true := by decide +kernel
set_option maxHeartbeats 16000000 in
theorem works_any (w : World) : Calls Tryz.prog 6 #[] w fun e w' => e = .returned (.bool true) ∧ Below w.heap.size w w' := by
  have hn := new_ok 3 w.heap.size w (by omega) (by omega) (Nat.le_refl _)
  go_enter Tryz.func6, Tryz.ntmps6
  go_wp2_with (fail)
  refine hn.mono ?_
  rintro e w1 ⟨rfl, ht, hb⟩
  have T1 := tb_new ht hb
  obtain ⟨D, hD⟩ : ∃ D, D = w.heap.size := ⟨_, rfl⟩
  clear ht hb hn
  go_wp2_with (fail)
  refine (effect_any _ _ _ _).mono ?_
  rintro e w2 ⟨rfl, b2⟩
  have T2 := T1.below b2
  have hp := T2.put wA.e wA.k wA.r (by decide)
  rw [show putC 3 [] ⟨wA.e, wA.k, wA.r⟩ = 0 from w_a] at hp
  clear b2 T1
  replace T2 := Lib.hid T2
  go_wp2_with (fail)
  refine hp.mono ?_
  rintro e w3 ⟨rfl, T3, -⟩
  clear hp T2
  go_wp2_with (fail)
  refine (effect_any _ _ _ _).mono ?_
  rintro e w4 ⟨rfl, b4⟩
  have T4 := T3.below b4
  have hp := T4.put wB.e wB.k wB.r (by decide)
  rw [show putC 3 (putL 3 [] wA) ⟨wB.e, wB.k, wB.r⟩ = 0 from w_b] at hp
  clear b4 T3
  replace T4 := Lib.hid T4
  go_wp2_with (fail)
  refine hp.mono ?_
  rintro e w5 ⟨rfl, T5, -⟩
  clear hp T4
  go_wp2_with (fail)
  refine (effect_any _ _ _ _).mono ?_
  rintro e w6 ⟨rfl, b6⟩
  have T6 := T5.below b6
  have hp := T6.put wC.e wC.k wC.r (by decide)
  rw [show putC 3 (putL 3 (putL 3 [] wA) wB) ⟨wC.e, wC.k, wC.r⟩ = 0 from w_c] at hp
  clear b6 T5
  replace T6 := Lib.hid T6
  go_wp2_with (fail)
  refine hp.mono ?_
  rintro e w7 ⟨rfl, T7, -⟩
  clear hp T6
  go_wp2_with (fail)
  refine (effect_any _ _ _ _).mono ?_
  rintro e w8 ⟨rfl, b8⟩
  have T8 : Tb w.heap.size w w.heap.size 3 wP w8 := T7.below b8
  have hg := T8.get (1, 0, 1)
  rw [w_g.1, w_g.2] at hg
  clear b8 T7
  replace T8 := Lib.hid T8
  go_wp2_with (fail)
  refine hg.mono ?_
  rintro e w9 ⟨rfl, T9, b9⟩
  clear T8 b9 hg
  have kb := (Below.refl w9.heap.size w9).alloc (Nat.le_refl _) (.cells #[.int .i64 0, .int .i64 5, .string noText] 50)
  have T10 := T9.below kb
  have hx := hpNew w9 (.cells #[.int .i64 0, .int .i64 5, .string noText] 50)
  have ht := T10.take ⟨#[97]⟩ ⟨#[99]⟩ (by decide) (by decide)
  rw [w_t, w_o] at ht
  have hxD : w9.heap.size ≠ w.heap.size := by have := T9.lt; omega
  replace T9 := Lib.hid T9; replace T10 := Lib.hid T10; replace kb := Lib.hid kb; replace hx := Lib.hid hx
  go_wp2_with (fail)
  refine ht.mono ?_
  rintro e w11 ⟨B, m, d, rfl, rfl, hE, -, T11, hkp, -⟩
  have hx1 := hkp _ _ _ _ hx.out hxD (by decide)
  have x1 := blkC hx1 1
  simp only [List.getElem?_toArray, List.getElem?_cons_zero, List.getElem?_cons_succ] at x1
  clear ht hkp T10
  replace T11 := Lib.hid T11; replace hE := Lib.hid hE; replace hx := Lib.hid hx; replace hx1 := Lib.hid hx1
  go_wp2_with (fail)
  refine (effect_any _ _ _ _).mono ?_
  rintro e w12 ⟨rfl, b12⟩
  have T12 := Lib.hid (T11.out.below b12)
  have E12 := Lib.hid (SL.keep hE.out b12)
  clear b12 T11 hE x1
  go_wp2_with (fail)
  refine (effect_any _ _ _ _).mono ?_
  rintro e w13 ⟨rfl, b13⟩
  have T13 := Lib.hid (T12.out.below b13)
  have E13 := Lib.hid (SL.keep E12.out b13)
  clear b13 T12 E12
  have kb13 := (Below.refl w13.heap.size w13).alloc (Nat.le_refl _) (.cells #[.int .i64 1, .int .i64 0, .int .i64 1, .int .i64 1, .int .i64 0, .int .i64 2] 39)
  have T14 := T13.out.below kb13
  have he := equal_any B (some ⟨w13.heap.size, 0, none⟩) 2 d 2 2 _ [(1, 0, 1), (1, 0, 2)] _ (SL.keep E13.out kb13) (es_row w13 [(1, 0, 1), (1, 0, 2)] _ rfl (by decide)) (by omega) (by omega)
  rw [decide_eq_true rfl] at he
  replace T14 := Lib.hid T14; replace kb13 := Lib.hid kb13
  clear T13
  go_wp2_with (fail)
  refine he.mono ?_
  rintro e w15 ⟨rfl, b15⟩
  have T15 := Lib.hid (T14.out.below b15)
  clear b15 T14 E13 kb13 he
  have hal := T15.out.all
  rw [w_l] at hal
  go_wp2_with (fail)
  refine hal.mono ?_
  rintro e w16 ⟨B2, m2, d2, rfl, hm2, E16, -, T16, -⟩
  have hm2' : m2 = 1 := hm2.trans (by decide +kernel)
  subst hm2'
  clear hal T15 hm2
  replace T16 := Lib.hid T16; replace E16 := Lib.hid E16
  go_wp2_with (fail)
  refine (effect_any _ _ _ _).mono ?_
  rintro e w17 ⟨rfl, b17⟩
  have T17 := Lib.hid (T16.out.below b17)
  have E17 := Lib.hid (SL.keep E16.out b17)
  clear b17 T16 E16
  have kb17 := (Below.refl w17.heap.size w17).alloc (Nat.le_refl _) (.cells #[.int .i64 1, .int .i64 1, .int .i64 1] 39)
  have T18 := T17.out.below kb17
  have he := equal_any B2 (some ⟨w17.heap.size, 0, none⟩) 1 d2 1 1 _ [(1, 1, 1)] _ (SL.keep E17.out kb17) (es_row w17 [(1, 1, 1)] _ rfl (by decide)) (by omega) (by omega)
  rw [decide_eq_true rfl] at he
  replace T18 := Lib.hid T18; replace kb17 := Lib.hid kb17
  clear T17
  go_wp2_with (fail)
  refine he.mono ?_
  rintro e w19 ⟨rfl, b19⟩
  have T19 := Lib.hid (T18.out.below b19)
  clear b19 T18 E17 kb17 he
  have hr := T19.out.room (by omega)
  rw [w_n] at hr
  go_wp2_with (fail)
  refine hr.mono ?_
  rintro e w20 ⟨rfl, T20, -⟩
  replace T20 := Lib.hid T20
  clear hr T19
  go_wp2_with (fail)
  go_ret
  exact ⟨rfl, T20.out.bel⟩
end Go.Proofs.YtkdfhackpmdgfaaGreatDoor
