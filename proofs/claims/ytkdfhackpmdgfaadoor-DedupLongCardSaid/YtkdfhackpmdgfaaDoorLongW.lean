/- The walk of DedupLong. -/
import Derived.Test.YtkdfhackpmdgfaaDoorWorks
import Derived.Test.YtkdfhackpmdgfaaDoorLongP
namespace Go.Proofs.YtkdfhackpmdgfaaDoor
open Go.RowKit Go.Shelf
set_option linter.unusedSimpArgs false
set_option linter.unusedVariables false
set_option linter.unusedSectionVars false
set_option maxRecDepth 10000
set_option maxHeartbeats 32000000 in
theorem long_walkY (a : Int) (r : Nat) (h0 : 0 ≤ a) (h1 : a ≤ 255) (ha : a.tmod 4 = r) (hr : r ≤ 2) (w : World) : Calls Tryd.prog 7 #[.int .u8 a] w fun e w' => e = .returned (.bool true) ∧ Below w.heap.size w w' := by
  have hn := new_ok 2048 w.heap.size w (by omega) (by omega) (Nat.le_refl _)
  have hs : (⟨(Lib.repeatL [100] (65534 + r)).toArray⟩ : ByteArray).size = 65534 + r := by
    show (Lib.repeatL [100] (65534 + r)).toArray.size = _
    rw [List.size_toArray, Lib.repeatL_length]; simp
  obtain ⟨data, hd⟩ : ∃ d : ByteArray, d = ⟨(Lib.repeatL [100] (65534 + r)).toArray⟩ := ⟨_, rfl⟩
  rw [← hd] at hs
  have hrep : ∀ W, Calls Tryd.prog 28 #[.string ⟨#[100]⟩, .int .i64 (65536 + ((r : Int) - 2))] W fun e w' => e = .returned (.string data) ∧ Below W.heap.size W w' := by
    intro W
    have := Tryd.strings_Repeat ⟨#[100]⟩ (65534 + r) W (by omega) (by show 1 * (65534 + r) ≤ _; omega)
    rw [show (((65534 + r : Nat) : Int)) = 65536 + ((r : Int) - 2) from by omega] at this
    rw [hd]; exact this
  have hb := big_yes (data := data) (by omega)
  replace hd := Lib.hid hd; replace hs := Lib.hid hs; replace hb := Lib.hid hb
  have k0 : ¬ (2048 : Int) < 0 := by omega
  have kp : ¬ (0 : Int) < (r : Int) - 2 := by omega
  go_enter Tryd.func7, Tryd.ntmps7
  go_wp2_with (fail)
  refine hn.mono ?_
  rintro e w1 ⟨rfl, ht, hbw⟩
  have T1 := tb_new ht hbw
  clear ht hbw hn
  replace T1 := Lib.hid T1
  have hn2 := new_no (2049 + a) w1 (.inr (by omega))
  go_wp2_with (fail)
  refine hn2.mono ?_
  rintro e w1 ⟨rfl, rfl⟩
  clear hn2
  have hn3 := new_no (-1 - a) w1 (.inl (by omega))
  go_wp2_with (fail)
  refine hn3.mono ?_
  rintro e w1 ⟨rfl, rfl⟩
  clear hn3
  go_wp2_with (fail)
  refine (hrep _).mono ?_
  rintro e w2 ⟨rfl, b2⟩
  have T2 := T1.out.below b2
  have hput := T2.put (bigE data).e (bigE data).k (bigE data).r (by show 16 ≤ _; omega)
  rw [show putC 2048 [] ⟨(bigE data).e, (bigE data).k, (bigE data).r⟩ = 0 from hb.out.1, show putL 2048 [] ⟨(bigE data).e, (bigE data).k, (bigE data).r⟩ = [bigE data] from hb.out.2] at hput
  simp only [bigE] at hput
  replace T2 := Lib.hid T2
  clear b2 T1 hrep
  go_wp2_with (fail)
  refine hput.mono ?_
  rintro e w3 ⟨rfl, T3, -, -⟩
  clear hput T2
  have T3 : Tb w.heap.size w w.heap.size 2048 [bigE data] w3 := T3
  have hg := T3.get (9999, 7, 3)
  rw [(big_get data).1, (big_get data).2] at hg
  replace T3 := Lib.hid T3
  go_wp2_with (fail)
  refine hg.mono ?_
  rintro e w4 ⟨rfl, T4, -⟩
  clear hg T3
  have kb := (Below.refl w4.heap.size w4).alloc (Nat.le_refl _) (.cells #[.int .i64 18, .int .i64 (-1152921504606846976), .string data] 43)
  have hx := hpNew w4 (.cells #[.int .i64 18, .int .i64 (-1152921504606846976), .string data] 43)
  have T5 := T4.below kb
  have x2 := blkC hx 2
  simp only [List.getElem?_toArray, List.getElem?_cons_zero, List.getElem?_cons_succ] at x2
  have hl := T5.len
  replace T5 := Lib.hid T5; replace T4 := Lib.hid T4; replace kb := Lib.hid kb; replace hx := Lib.hid hx
  go_wp2_with (fail)
  refine hl.mono ?_
  rintro e _ ⟨rfl, rfl⟩
  clear hl hx kb T4 x2
  generalize w4.alloc (.cells #[.int .i64 18, .int .i64 (-1152921504606846976), .string data] 43) = w5 at *
  go_wp2_with (fail)
  go_loopw [14] (fun i wr => ∃ (n : Nat) (P : List En), i = .int .i64 n ∧ n ≤ 2048 ∧ Fl P n ∧ Tb w.heap.size w w.heap.size 2048 P wr) (fun i _ => 2048 - (intOf i).toNat)
  case atStart => exact ⟨1, [bigE data], rfl, by omega, Fl.one data, T5.out⟩
  case round =>
    revert wr
    intro w6 hrel
    obtain ⟨n, P, rfl, hn, hF, hT⟩ := hrel
    by_cases hlt : n < 2048
    · obtain ⟨hc, hF'⟩ := hF.step hlt
      have hput := hT.put (lnE n).e (lnE n).k (lnE n).r (by show 1 ≤ _; omega)
      rw [show putC 2048 P ⟨(lnE n).e, (lnE n).k, (lnE n).r⟩ = 0 from hc, show putL 2048 P ⟨(lnE n).e, (lnE n).k, (lnE n).r⟩ = putL 2048 P (lnE n) from rfl] at hput
      simp only [lnE] at hput
      replace hc := Lib.hid hc
      have j1 : (n : Int) < 2048 := by omega
      replace hT := Lib.hid hT; replace hF := Lib.hid hF; replace hF' := Lib.hid hF'
      go_wp2_with (fail)
      refine hput.mono ?_
      rintro e w7 ⟨rfl, T7, -, -⟩
      replace T7 := Lib.hid T7
      clear hput hT hF
      go_wp2_with (fail)
      exact ⟨⟨n + 1, _, by go_num, by omega, hF'.out, T7.out⟩, by simp [intOf]; omega⟩
    · obtain rfl : n = 2048 := by omega
      obtain ⟨hf1, hf2⟩ := hF.full
      have hro := hT.room (by omega)
      rw [show (2048 : Int) - P.length = 0 from by rw [hF.len]; rfl] at hro
      replace hT := Lib.hid hT
      clear hlt hn
      go_wp2_with (fail)
      refine hro.mono ?_
      rintro e w7 ⟨rfl, T7, -⟩
      clear hro hT
      have hput := T7.put fullE.e fullE.k fullE.r (by decide)
      rw [show putC 2048 P ⟨fullE.e, fullE.k, fullE.r⟩ = 4 from hf1, show putL 2048 P ⟨fullE.e, fullE.k, fullE.r⟩ = P from by unfold putL; rw [show putC 2048 P ⟨fullE.e, fullE.k, fullE.r⟩ = 4 from hf1, if_neg (by decide)]] at hput
      replace T7 := Lib.hid T7
      go_wp2_with (fail)
      refine hput.mono ?_
      rintro e w8 ⟨rfl, T8, -, -⟩
      clear hput T7
      have hput := T8.put haveE.e haveE.k haveE.r (by decide)
      rw [show putC 2048 P ⟨haveE.e, haveE.k, haveE.r⟩ = 6 from hf2] at hput
      replace T8 := Lib.hid T8
      go_wp2_with (fail)
      refine hput.mono ?_
      rintro e w9 ⟨rfl, T9, -, -⟩
      clear hput T8
      have B9 := Lib.hid T9.bel
      have L9 := Lib.hid T9.le
      clear T9
      go_wp2_with (fail)
      refine (works_any _).mono ?_
      rintro e w10 ⟨rfl, b10⟩
      have B10 := Lib.hid (B9.out.trans (b10.mono L9.out))
      clear b10 B9 L9
      go_wp2_with (fail)
      go_ret
      exact ⟨rfl, B10.out⟩
set_option maxHeartbeats 32000000 in
theorem long_walkN (a : Int) (r : Nat) (h0 : 0 ≤ a) (h1 : a ≤ 255) (ha : a.tmod 4 = r) (hr : 2 < r ∧ r < 4) (w : World) : Calls Tryd.prog 7 #[.int .u8 a] w fun e w' => e = .returned (.bool true) ∧ Below w.heap.size w w' := by
  have hn := new_ok 2048 w.heap.size w (by omega) (by omega) (Nat.le_refl _)
  have hs : (⟨(Lib.repeatL [100] (65534 + r)).toArray⟩ : ByteArray).size = 65534 + r := by
    show (Lib.repeatL [100] (65534 + r)).toArray.size = _
    rw [List.size_toArray, Lib.repeatL_length]; simp
  obtain ⟨data, hd⟩ : ∃ d : ByteArray, d = ⟨(Lib.repeatL [100] (65534 + r)).toArray⟩ := ⟨_, rfl⟩
  rw [← hd] at hs
  have hrep : ∀ W, Calls Tryd.prog 28 #[.string ⟨#[100]⟩, .int .i64 (65536 + ((r : Int) - 2))] W fun e w' => e = .returned (.string data) ∧ Below W.heap.size W w' := by
    intro W
    have := Tryd.strings_Repeat ⟨#[100]⟩ (65534 + r) W (by omega) (by show 1 * (65534 + r) ≤ _; omega)
    rw [show (((65534 + r : Nat) : Int)) = 65536 + ((r : Int) - 2) from by omega] at this
    rw [hd]; exact this
  have hb := big_no (data := data) (by omega)
  replace hd := Lib.hid hd; replace hs := Lib.hid hs; replace hb := Lib.hid hb
  have k0 : ¬ (2048 : Int) < 0 := by omega
  have kp : (0 : Int) < (r : Int) - 2 := by omega
  go_enter Tryd.func7, Tryd.ntmps7
  go_wp2_with (fail)
  refine hn.mono ?_
  rintro e w1 ⟨rfl, ht, hbw⟩
  have T1 := tb_new ht hbw
  clear ht hbw hn
  replace T1 := Lib.hid T1
  have hn2 := new_no (2049 + a) w1 (.inr (by omega))
  go_wp2_with (fail)
  refine hn2.mono ?_
  rintro e w1 ⟨rfl, rfl⟩
  clear hn2
  have hn3 := new_no (-1 - a) w1 (.inl (by omega))
  go_wp2_with (fail)
  refine hn3.mono ?_
  rintro e w1 ⟨rfl, rfl⟩
  clear hn3
  go_wp2_with (fail)
  refine (hrep _).mono ?_
  rintro e w2 ⟨rfl, b2⟩
  have T2 := T1.out.below b2
  have hput := T2.put (bigE data).e (bigE data).k (bigE data).r (by show 16 ≤ _; omega)
  rw [show putC 2048 [] ⟨(bigE data).e, (bigE data).k, (bigE data).r⟩ = 2 from hb.out.1, show putL 2048 [] ⟨(bigE data).e, (bigE data).k, (bigE data).r⟩ = [] from hb.out.2] at hput
  simp only [bigE] at hput
  replace T2 := Lib.hid T2
  clear b2 T1 hrep
  go_wp2_with (fail)
  refine hput.mono ?_
  rintro e w3 ⟨rfl, T3, -, -⟩
  clear hput T2
  have T3 : Tb w.heap.size w w.heap.size 2048 [] w3 := T3
  have hg := T3.get (9999, 7, 3)
  rw [nil_get.1, nil_get.2] at hg
  replace T3 := Lib.hid T3
  go_wp2_with (fail)
  refine hg.mono ?_
  rintro e w4 ⟨rfl, T4, -⟩
  clear hg T3
  have kb := (Below.refl w4.heap.size w4).alloc (Nat.le_refl _) (.cells #[.int .i64 0, .int .i64 0, .string noText] 43)
  have hx := hpNew w4 (.cells #[.int .i64 0, .int .i64 0, .string noText] 43)
  have T5 := T4.below kb
  have x2 := blkC hx 2
  simp only [List.getElem?_toArray, List.getElem?_cons_zero, List.getElem?_cons_succ] at x2
  have hl := T5.len
  replace T5 := Lib.hid T5; replace T4 := Lib.hid T4; replace kb := Lib.hid kb; replace hx := Lib.hid hx
  go_wp2_with (fail)
  refine hl.mono ?_
  rintro e _ ⟨rfl, rfl⟩
  clear hl hx kb T4 x2
  generalize w4.alloc (.cells #[.int .i64 0, .int .i64 0, .string noText] 43) = w5 at *
  go_wp2_with (fail)
  go_loopw [14] (fun i wr => ∃ (n : Nat) (P : List En), i = .int .i64 n ∧ n ≤ 2048 ∧ Fl P n ∧ Tb w.heap.size w w.heap.size 2048 P wr) (fun i _ => 2048 - (intOf i).toNat)
  case atStart => exact ⟨0, [], rfl, by omega, Fl.nil, T5.out⟩
  case round =>
    revert wr
    intro w6 hrel
    obtain ⟨n, P, rfl, hn, hF, hT⟩ := hrel
    by_cases hlt : n < 2048
    · obtain ⟨hc, hF'⟩ := hF.step hlt
      have hput := hT.put (lnE n).e (lnE n).k (lnE n).r (by show 1 ≤ _; omega)
      rw [show putC 2048 P ⟨(lnE n).e, (lnE n).k, (lnE n).r⟩ = 0 from hc, show putL 2048 P ⟨(lnE n).e, (lnE n).k, (lnE n).r⟩ = putL 2048 P (lnE n) from rfl] at hput
      simp only [lnE] at hput
      replace hc := Lib.hid hc
      have j1 : (n : Int) < 2048 := by omega
      replace hT := Lib.hid hT; replace hF := Lib.hid hF; replace hF' := Lib.hid hF'
      go_wp2_with (fail)
      refine hput.mono ?_
      rintro e w7 ⟨rfl, T7, -, -⟩
      replace T7 := Lib.hid T7
      clear hput hT hF
      go_wp2_with (fail)
      exact ⟨⟨n + 1, _, by go_num, by omega, hF'.out, T7.out⟩, by simp [intOf]; omega⟩
    · obtain rfl : n = 2048 := by omega
      obtain ⟨hf1, hf2⟩ := hF.full
      have hro := hT.room (by omega)
      rw [show (2048 : Int) - P.length = 0 from by rw [hF.len]; rfl] at hro
      replace hT := Lib.hid hT
      clear hlt hn
      go_wp2_with (fail)
      refine hro.mono ?_
      rintro e w7 ⟨rfl, T7, -⟩
      clear hro hT
      have hput := T7.put fullE.e fullE.k fullE.r (by decide)
      rw [show putC 2048 P ⟨fullE.e, fullE.k, fullE.r⟩ = 4 from hf1, show putL 2048 P ⟨fullE.e, fullE.k, fullE.r⟩ = P from by unfold putL; rw [show putC 2048 P ⟨fullE.e, fullE.k, fullE.r⟩ = 4 from hf1, if_neg (by decide)]] at hput
      replace T7 := Lib.hid T7
      go_wp2_with (fail)
      refine hput.mono ?_
      rintro e w8 ⟨rfl, T8, -, -⟩
      clear hput T7
      have hput := T8.put haveE.e haveE.k haveE.r (by decide)
      rw [show putC 2048 P ⟨haveE.e, haveE.k, haveE.r⟩ = 6 from hf2] at hput
      replace T8 := Lib.hid T8
      go_wp2_with (fail)
      refine hput.mono ?_
      rintro e w9 ⟨rfl, T9, -, -⟩
      clear hput T8
      have B9 := Lib.hid T9.bel
      have L9 := Lib.hid T9.le
      clear T9
      go_wp2_with (fail)
      refine (works_any _).mono ?_
      rintro e w10 ⟨rfl, b10⟩
      have B10 := Lib.hid (B9.out.trans (b10.mono L9.out))
      clear b10 B9 L9
      go_wp2_with (fail)
      go_ret
      exact ⟨rfl, B10.out⟩
theorem long_walk (a : Int) (h0 : 0 ≤ a) (h1 : a ≤ 255) (w : World) : Calls Tryd.prog 7 #[.int .u8 a] w fun e w' => e = .returned (.bool true) ∧ Below w.heap.size w w' := by
  have hm : a.tmod 4 = (a.toNat % 4 : Nat) := by
    rw [Int.tmod_eq_emod_of_nonneg h0]; omega
  by_cases hr : a.toNat % 4 ≤ 2
  · exact long_walkY a _ h0 h1 hm hr w
  · exact long_walkN a _ h0 h1 hm (by omega) w
end Go.Proofs.YtkdfhackpmdgfaaDoor
