/- EffectsParts' walk. -/
import Derived.Test.YthmkfbabacehnaaRSagas
import Derived.Deep.QuietTactic
import Derived.BigQuiet
namespace Go.Proofs.Ythmkfbabacehnaa
open Go.RowKit Go.Shelf
set_option linter.unusedSimpArgs false
set_option linter.unusedVariables false
set_option linter.unusedSectionVars false
set_option maxRecDepth 10000
set_option maxHeartbeats 4000000 in
theorem parts100 (A : Option Addr) (s : Int) (n c : Nat) (hlen : 100 < n) (w : World) : Calls Try.prog 7 #[.slice A n c, .int .i64 s] w fun e w' => e = .returned (.bool true) ∧ Below w.heap.size w w' := by
  go_enter Try.func7, Try.ntmps7
  go_wp2_with (fail)
  refine (works_any w).mono ?_
  rintro e w1 ⟨rfl, b1⟩
  go_wp2_with (fail)
  go_ret
  exact ⟨rfl, b1⟩
set_option maxHeartbeats 16000000 in
theorem parts_walk (A : Option Addr) (n c : Nat) (l : List Ef) (s : Int) (w : World) (h : ES w A n l) : Calls Try.prog 7 #[.slice A n c, .int .i64 s] w fun e w' => e = .returned (.bool true) ∧ Below w.heap.size w w' := by
  by_cases hlen : 100 < n
  · exact parts100 A s n c hlen w
  have hn : n ≤ 100 := by omega
  have hl1 := h.1
  have hsg := sagas_any A n c l w h (by omega)
  obtain ⟨hmem, hpw⟩ := sagasP_spec l
  replace h := Lib.hid h; replace hmem := Lib.hid hmem; replace hpw := Lib.hid hpw
  clear hlen
  go_enter Try.func7, Try.ntmps7
  go_wp2_with (fail)
  refine hsg.mono ?_
  rintro e w2 ⟨I, m, d, rfl, hmn, b2, hI⟩
  have hE2 := SL.keep h.out b2
  have hr := rsagas_any A n c l w2 hE2 (by omega)
  replace hI := Lib.hid hI; replace b2 := Lib.hid b2; replace hE2 := Lib.hid hE2
  clear hsg
  go_wp2_with (fail)
  refine hr.mono ?_
  rintro e w3 ⟨I2, m2, d2, o, rfl, hmn2, hO, hG⟩
  have ho : sagasP l = o := inc_unique hpw.out hG.inc fun v => by rw [hmem.out, hG.mem]
  have hI3 := SL.keep hI.out hO.bel
  rw [ho] at hI3
  have hmm : m2 = m := by have := hI3.1; have := hO.len; omega
  subst hmm
  have b3 := b2.out.trans (hO.bel.mono b2.out.size)
  have ha := of_any A n c l s w3 (SL.keep h.out b3) (by omega)
  have hJ3 := hO.sl
  replace hI3 := Lib.hid hI3; replace hJ3 := Lib.hid hJ3; replace b3 := Lib.hid b3; replace hO := Lib.hid hO; replace ho := Lib.hid ho
  clear hr hI b2 hE2 hG
  go_wp2_with (fail)
  refine ha.mono ?_
  rintro e w4 ⟨A4, n4, c4, rfl, o4⟩
  have b4 := b3.out.trans (o4.bel.mono b3.out.size)
  have hb := rof_any A n c l s w4 (SL.keep h.out b4) (by omega)
  replace b4 := Lib.hid b4; replace o4 := Lib.hid o4
  clear ha
  go_wp2_with (fail)
  refine hb.mono ?_
  rintro e w5 ⟨A5, n5, c5, rfl, o5⟩
  have b5 := b4.out.trans (o5.bel.mono b4.out.size)
  have o45 := o4.out.keep o5.bel
  have hlen5 := ofS_len s l
  have hs := same_any A4 A5 n4 c4 n5 c5 _ _ w5 o45.es o5.es (by have := o45.len; omega) (by have := o5.len; omega)
  rw [show decide (ofS s l = ofS s l) = true from by simp] at hs
  have hI5 := SL.keep hI3.out (o4.out.bel.trans (o5.bel.mono o4.out.bel.size))
  have hJ5 := SL.keep hJ3.out (o4.out.bel.trans (o5.bel.mono o4.out.bel.size))
  replace b5 := Lib.hid b5; replace o5 := Lib.hid o5; replace o45 := Lib.hid o45; replace hI5 := Lib.hid hI5; replace hJ5 := Lib.hid hJ5
  clear hb hlen5
  go_wp2_with (fail)
  refine hs.mono ?_
  rintro e w6 ⟨rfl, b6⟩
  have hI6 := SL.keep hI5.out b6
  have hJ6 := SL.keep hJ5.out b6
  have b6' := b5.out.trans (b6.mono b5.out.size)
  replace hI6 := Lib.hid hI6; replace hJ6 := Lib.hid hJ6; replace b6' := Lib.hid b6'
  clear hs b6 hI3 hJ3 b3 b4 o4 o45 o5 b5 hI5 hJ5
  go_wp2_with (fail)
  go_loopw [7] (fun i wr => ∃ j : Nat, j ≤ m2 ∧ i = .int .i64 j ∧ Below w6.heap.size w6 wr) (fun i _ => m2 - (intOf i).toNat)
  case atStart => exact ⟨0, by omega, rfl, Below.refl _ _⟩
  case round =>
    obtain ⟨j, hj, rfl, hb⟩ := hrel
    by_cases hlt : j < m2
    · obtain ⟨b1, p1, x, rfl, hbl1, hx, f1⟩ := (SL.keep hI6.out hb).cellI hlt
      obtain ⟨b2, p2, x', rfl, hbl2, hx', f2⟩ := (SL.keep hJ6.out hb).cellI hlt
      rw [hx] at hx'
      injection hx' with hx'
      subst hx'
      have j0 : (0 : Int) ≤ j := by omega
      have j1 : (j : Int) < m2 := by omega
      replace hb := Lib.hid hb; replace hx := Lib.hid hx
      go_wp2_with (fail)
      go_quiet (fail)
      go_wp2_with (fail)
      exact ⟨⟨j + 1, by omega, by go_num, below_drewN hb.out _⟩, by simp [intOf]; omega⟩
    · obtain rfl : j = m2 := by omega
      have b7 := Lib.hid (b6'.out.trans (hb.mono b6'.out.size))
      replace hb := Lib.hid hb
      go_wp2_with (fail)
      refine (works_any wr).mono ?_
      rintro e w8 ⟨rfl, b8⟩
      have b9 := Lib.hid (b7.out.trans (b8.mono b7.out.size))
      clear b7 b8
      go_wp2_with (fail)
      go_ret
      exact ⟨rfl, b9.out⟩
end Go.Proofs.Ythmkfbabacehnaa
