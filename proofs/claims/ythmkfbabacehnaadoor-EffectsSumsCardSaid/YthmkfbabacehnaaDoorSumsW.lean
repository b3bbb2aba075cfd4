/- EffectsSums' walk. -/
import Derived.Test.YthmkfbabacehnaaDoorShortD
import Derived.Test.YthmkfbabacehnaaDoorOpenDf
import Derived.Test.YthmkfbabacehnaaDoorWorks
import Derived.Test.YthmkfbabacehnaaDoorRHeldD
namespace Go.Proofs.YthmkfbabacehnaaDoor
open Go.RowKit Go.Shelf
set_option linter.unusedSimpArgs false
set_option linter.unusedVariables false
set_option linter.unusedSectionVars false
set_option maxRecDepth 10000
set_option maxHeartbeats 8000000 in
theorem sums_walk (nm : ByteArray) (r dl : Int) (A : Option Addr) (n c : Nat) (ss : List St) (B : Option Addr) (m d : Nat) (l : List Ef) (key : ByteArray) (w : World) (hD : IsDef w nm A n c ss) (hE : ES w B m l) (hL : LdA w) (hH : LdH w) :
    Calls Tryd.prog 4 #[.agg #[.string nm, .int .i64 r, .int .i64 dl, .slice A n c], .slice B m d, .string key] w fun e w' => e = .returned (.bool true) ∧ Below w.heap.size w w' := by
  have kb := (Below.refl w.heap.size w).alloc (Nat.le_refl _) (.cells #[.string nm, .int .i64 r, .int .i64 dl, .slice A n c] 24)
  have hnew := hpNew w (.cells #[.string nm, .int .i64 r, .int .i64 dl, .slice A n c] 24)
  have hs := short_any nm r dl A n c ss (w.alloc (.cells #[.string nm, .int .i64 r, .int .i64 dl, .slice A n c] 24)) (SL.keep hD.ss kb)
  cases hsB : shortB nm ss with
  | false =>
    rw [hsB] at hs
    clear hsB
    replace hD := Lib.hid hD; replace hE := Lib.hid hE; replace kb := Lib.hid kb; replace hnew := Lib.hid hnew; replace hL := Lib.hid hL; replace hH := Lib.hid hH
    go_enter Tryd.func4, Tryd.ntmps4
    go_wp2_with (fail)
    refine (hs).mono ?_
    rintro e w1 ⟨rfl, b1⟩
    have hh1 := (b1.block _ (by simp)).trans hnew.out
    have x0 := blkC hh1 0
    have x1 := blkC hh1 1
    have x2 := blkC hh1 2
    have x3 := blkC hh1 3
    simp only [List.getElem?_toArray, List.getElem?_cons_zero, List.getElem?_cons_succ] at x0 x1 x2 x3
    have hb1 := Lib.hid (kb.out.trans (b1.mono kb.out.size))
    replace hh1 := Lib.hid hh1
    clear b1
    clear x0 x1 x2 x3
    go_wp2_with (fail)
    refine (works_any _).mono ?_
    rintro e w9 ⟨rfl, b9⟩
    go_wp2_with (fail)
    go_ret
    exact ⟨rfl, hb1.out.trans (b9.mono hb1.out.size)⟩
  | true =>
    rw [hsB] at hs
    clear hsB
    by_cases m1 : 100 < m
    · have m1i : (100 : Int) < m := by omega
      by_cases m2 : m ≤ 9998
      · have m2i : (m : Int) ≤ 9998 := by omega
        replace hD := Lib.hid hD; replace hE := Lib.hid hE; replace kb := Lib.hid kb; replace hnew := Lib.hid hnew; replace hL := Lib.hid hL; replace hH := Lib.hid hH
        go_enter Tryd.func4, Tryd.ntmps4
        go_wp2_with (fail)
        refine (hs).mono ?_
        rintro e w1 ⟨rfl, b1⟩
        have hh1 := (b1.block _ (by simp)).trans hnew.out
        have x0 := blkC hh1 0
        have x1 := blkC hh1 1
        have x2 := blkC hh1 2
        have x3 := blkC hh1 3
        simp only [List.getElem?_toArray, List.getElem?_cons_zero, List.getElem?_cons_succ] at x0 x1 x2 x3
        have hb1 := Lib.hid (kb.out.trans (b1.mono kb.out.size))
        replace hh1 := Lib.hid hh1
        clear b1
        clear x0 x1 x2 x3
        go_wp2_with (fail)
        refine (works_any _).mono ?_
        rintro e w9 ⟨rfl, b9⟩
        go_wp2_with (fail)
        go_ret
        exact ⟨rfl, hb1.out.trans (b9.mono hb1.out.size)⟩
      · have m2i : ¬ (m : Int) ≤ 9998 := by omega
        by_cases m3 : 10005 < m
        · have m3i : (10005 : Int) < m := by omega
          replace hD := Lib.hid hD; replace hE := Lib.hid hE; replace kb := Lib.hid kb; replace hnew := Lib.hid hnew; replace hL := Lib.hid hL; replace hH := Lib.hid hH
          go_enter Tryd.func4, Tryd.ntmps4
          go_wp2_with (fail)
          refine (hs).mono ?_
          rintro e w1 ⟨rfl, b1⟩
          have hh1 := (b1.block _ (by simp)).trans hnew.out
          have x0 := blkC hh1 0
          have x1 := blkC hh1 1
          have x2 := blkC hh1 2
          have x3 := blkC hh1 3
          simp only [List.getElem?_toArray, List.getElem?_cons_zero, List.getElem?_cons_succ] at x0 x1 x2 x3
          have hb1 := Lib.hid (kb.out.trans (b1.mono kb.out.size))
          replace hh1 := Lib.hid hh1
          clear b1
          clear x0 x1 x2 x3
          go_wp2_with (fail)
          refine (works_any _).mono ?_
          rintro e w9 ⟨rfl, b9⟩
          go_wp2_with (fail)
          go_ret
          exact ⟨rfl, hb1.out.trans (b9.mono hb1.out.size)⟩
        · have m3i : ¬ (10005 : Int) < m := by omega
          by_cases m4 : 40 < key.size
          · have m4i : (40 : Int) < key.size := by omega
            replace hD := Lib.hid hD; replace hE := Lib.hid hE; replace kb := Lib.hid kb; replace hnew := Lib.hid hnew; replace hL := Lib.hid hL; replace hH := Lib.hid hH
            go_enter Tryd.func4, Tryd.ntmps4
            go_wp2_with (fail)
            refine (hs).mono ?_
            rintro e w1 ⟨rfl, b1⟩
            have hh1 := (b1.block _ (by simp)).trans hnew.out
            have x0 := blkC hh1 0
            have x1 := blkC hh1 1
            have x2 := blkC hh1 2
            have x3 := blkC hh1 3
            simp only [List.getElem?_toArray, List.getElem?_cons_zero, List.getElem?_cons_succ] at x0 x1 x2 x3
            have hb1 := Lib.hid (kb.out.trans (b1.mono kb.out.size))
            replace hh1 := Lib.hid hh1
            clear b1
            clear x0 x1 x2 x3
            go_wp2_with (fail)
            refine (works_any _).mono ?_
            rintro e w9 ⟨rfl, b9⟩
            go_wp2_with (fail)
            go_ret
            exact ⟨rfl, hb1.out.trans (b9.mono hb1.out.size)⟩
          · have m4i : ¬ (40 : Int) < key.size := by omega
            replace hD := Lib.hid hD; replace hE := Lib.hid hE; replace kb := Lib.hid kb; replace hnew := Lib.hid hnew; replace hL := Lib.hid hL; replace hH := Lib.hid hH
            go_enter Tryd.func4, Tryd.ntmps4
            go_wp2_with (fail)
            refine (hs).mono ?_
            rintro e w1 ⟨rfl, b1⟩
            have hh1 := (b1.block _ (by simp)).trans hnew.out
            have x0 := blkC hh1 0
            have x1 := blkC hh1 1
            have x2 := blkC hh1 2
            have x3 := blkC hh1 3
            simp only [List.getElem?_toArray, List.getElem?_cons_zero, List.getElem?_cons_succ] at x0 x1 x2 x3
            have hb1 := Lib.hid (kb.out.trans (b1.mono kb.out.size))
            replace hh1 := Lib.hid hh1
            clear b1
            have c2 := sum_any nm r dl A n c ss B m d l key w1 (hD.out.keep hb1.out).nm (hD.out.keep hb1.out).ss hD.out.n hD.out.cap hD.out.keys (SL.keep hE.out hb1.out) (by omega) (Ld.keep hL.out hb1.out)
            clear hs
            go_wp2_with (fail)
            refine (c2).mono ?_
            rintro e w2 ⟨rfl, b2⟩
            clear x0 x1 x2 x3
            have hh2 := (b2.block _ (blkX hh1.out)).trans hh1.out
            have x0 := blkC hh2 0
            have x1 := blkC hh2 1
            have x2 := blkC hh2 2
            have x3 := blkC hh2 3
            simp only [List.getElem?_toArray, List.getElem?_cons_zero, List.getElem?_cons_succ] at x0 x1 x2 x3
            have hb2 := Lib.hid (hb1.out.trans (b2.mono hb1.out.size))
            replace hh2 := Lib.hid hh2
            clear b2
            have c3 := rsum_any nm r dl A n c ss B m d l key w2 (hD.out.keep hb2.out).nm (hD.out.keep hb2.out).ss hD.out.n hD.out.cap hD.out.keys (SL.keep hE.out hb2.out) (by omega)
            rw [← sum_eq] at c3
            clear c2 hh1 hb1
            go_wp2_with (fail)
            refine (c3).mono ?_
            rintro e w3 ⟨rfl, b3⟩
            clear x0 x1 x2 x3
            have hh3 := (b3.block _ (blkX hh2.out)).trans hh2.out
            have x0 := blkC hh3 0
            have x1 := blkC hh3 1
            have x2 := blkC hh3 2
            have x3 := blkC hh3 3
            simp only [List.getElem?_toArray, List.getElem?_cons_zero, List.getElem?_cons_succ] at x0 x1 x2 x3
            have hb3 := Lib.hid (hb2.out.trans (b3.mono hb2.out.size))
            replace hh3 := Lib.hid hh3
            clear b3
            have c4 := held_any nm r dl A n c ss B m d l key w3 (hD.out.keep hb3.out).nm (hD.out.keep hb3.out).ss hD.out.n hD.out.cap hD.out.keys (SL.keep hE.out hb3.out) (by omega) (Ld.keep hH.out hb3.out)
            clear c3 hh2 hb2
            go_wp2_with (fail)
            refine (c4).mono ?_
            rintro e w4 ⟨rfl, b4⟩
            clear x0 x1 x2 x3
            have hh4 := (b4.block _ (blkX hh3.out)).trans hh3.out
            have x0 := blkC hh4 0
            have x1 := blkC hh4 1
            have x2 := blkC hh4 2
            have x3 := blkC hh4 3
            simp only [List.getElem?_toArray, List.getElem?_cons_zero, List.getElem?_cons_succ] at x0 x1 x2 x3
            have hb4 := Lib.hid (hb3.out.trans (b4.mono hb3.out.size))
            replace hh4 := Lib.hid hh4
            clear b4
            have c5 := rheld_any nm r dl A n c ss B m d l key w4 (hD.out.keep hb4.out).nm (hD.out.keep hb4.out).ss hD.out.n hD.out.cap hD.out.keys (SL.keep hE.out hb4.out) (by omega)
            rw [← held_eq] at c5
            clear c4 hh3 hb3
            generalize (sumP nm r dl ss l key).1 = s1 at *
            generalize (sumP nm r dl ss l key).2 = s2 at *
            generalize (heldP nm r dl ss l key).1 = t1 at *
            generalize (heldP nm r dl ss l key).2.1 = t2 at *
            generalize (heldP nm r dl ss l key).2.2 = t3 at *
            go_wp2_with (fail)
            refine (c5).mono ?_
            rintro e w5 ⟨rfl, b5⟩
            clear x0 x1 x2 x3
            have hh5 := (b5.block _ (blkX hh4.out)).trans hh4.out
            have x0 := blkC hh5 0
            have x1 := blkC hh5 1
            have x2 := blkC hh5 2
            have x3 := blkC hh5 3
            simp only [List.getElem?_toArray, List.getElem?_cons_zero, List.getElem?_cons_succ] at x0 x1 x2 x3
            have hb5 := Lib.hid (hb4.out.trans (b5.mono hb4.out.size))
            replace hh5 := Lib.hid hh5
            clear b5
            clear x0 x1 x2 x3
            go_wp2_with (fail)
            refine (works_any _).mono ?_
            rintro e w9 ⟨rfl, b9⟩
            go_wp2_with (fail)
            go_ret
            exact ⟨rfl, hb5.out.trans (b9.mono hb5.out.size)⟩
    · have m1i : ¬ (100 : Int) < m := by omega
      have m3i : ¬ (10005 : Int) < m := by omega
      by_cases m4 : 40 < key.size
      · have m4i : (40 : Int) < key.size := by omega
        replace hD := Lib.hid hD; replace hE := Lib.hid hE; replace kb := Lib.hid kb; replace hnew := Lib.hid hnew; replace hL := Lib.hid hL; replace hH := Lib.hid hH
        go_enter Tryd.func4, Tryd.ntmps4
        go_wp2_with (fail)
        refine (hs).mono ?_
        rintro e w1 ⟨rfl, b1⟩
        have hh1 := (b1.block _ (by simp)).trans hnew.out
        have x0 := blkC hh1 0
        have x1 := blkC hh1 1
        have x2 := blkC hh1 2
        have x3 := blkC hh1 3
        simp only [List.getElem?_toArray, List.getElem?_cons_zero, List.getElem?_cons_succ] at x0 x1 x2 x3
        have hb1 := Lib.hid (kb.out.trans (b1.mono kb.out.size))
        replace hh1 := Lib.hid hh1
        clear b1
        clear x0 x1 x2 x3
        go_wp2_with (fail)
        refine (works_any _).mono ?_
        rintro e w9 ⟨rfl, b9⟩
        go_wp2_with (fail)
        go_ret
        exact ⟨rfl, hb1.out.trans (b9.mono hb1.out.size)⟩
      · have m4i : ¬ (40 : Int) < key.size := by omega
        replace hD := Lib.hid hD; replace hE := Lib.hid hE; replace kb := Lib.hid kb; replace hnew := Lib.hid hnew; replace hL := Lib.hid hL; replace hH := Lib.hid hH
        go_enter Tryd.func4, Tryd.ntmps4
        go_wp2_with (fail)
        refine (hs).mono ?_
        rintro e w1 ⟨rfl, b1⟩
        have hh1 := (b1.block _ (by simp)).trans hnew.out
        have x0 := blkC hh1 0
        have x1 := blkC hh1 1
        have x2 := blkC hh1 2
        have x3 := blkC hh1 3
        simp only [List.getElem?_toArray, List.getElem?_cons_zero, List.getElem?_cons_succ] at x0 x1 x2 x3
        have hb1 := Lib.hid (kb.out.trans (b1.mono kb.out.size))
        replace hh1 := Lib.hid hh1
        clear b1
        have c2 := sum_any nm r dl A n c ss B m d l key w1 (hD.out.keep hb1.out).nm (hD.out.keep hb1.out).ss hD.out.n hD.out.cap hD.out.keys (SL.keep hE.out hb1.out) (by omega) (Ld.keep hL.out hb1.out)
        clear hs
        go_wp2_with (fail)
        refine (c2).mono ?_
        rintro e w2 ⟨rfl, b2⟩
        clear x0 x1 x2 x3
        have hh2 := (b2.block _ (blkX hh1.out)).trans hh1.out
        have x0 := blkC hh2 0
        have x1 := blkC hh2 1
        have x2 := blkC hh2 2
        have x3 := blkC hh2 3
        simp only [List.getElem?_toArray, List.getElem?_cons_zero, List.getElem?_cons_succ] at x0 x1 x2 x3
        have hb2 := Lib.hid (hb1.out.trans (b2.mono hb1.out.size))
        replace hh2 := Lib.hid hh2
        clear b2
        have c3 := rsum_any nm r dl A n c ss B m d l key w2 (hD.out.keep hb2.out).nm (hD.out.keep hb2.out).ss hD.out.n hD.out.cap hD.out.keys (SL.keep hE.out hb2.out) (by omega)
        rw [← sum_eq] at c3
        clear c2 hh1 hb1
        go_wp2_with (fail)
        refine (c3).mono ?_
        rintro e w3 ⟨rfl, b3⟩
        clear x0 x1 x2 x3
        have hh3 := (b3.block _ (blkX hh2.out)).trans hh2.out
        have x0 := blkC hh3 0
        have x1 := blkC hh3 1
        have x2 := blkC hh3 2
        have x3 := blkC hh3 3
        simp only [List.getElem?_toArray, List.getElem?_cons_zero, List.getElem?_cons_succ] at x0 x1 x2 x3
        have hb3 := Lib.hid (hb2.out.trans (b3.mono hb2.out.size))
        replace hh3 := Lib.hid hh3
        clear b3
        have c4 := held_any nm r dl A n c ss B m d l key w3 (hD.out.keep hb3.out).nm (hD.out.keep hb3.out).ss hD.out.n hD.out.cap hD.out.keys (SL.keep hE.out hb3.out) (by omega) (Ld.keep hH.out hb3.out)
        clear c3 hh2 hb2
        go_wp2_with (fail)
        refine (c4).mono ?_
        rintro e w4 ⟨rfl, b4⟩
        clear x0 x1 x2 x3
        have hh4 := (b4.block _ (blkX hh3.out)).trans hh3.out
        have x0 := blkC hh4 0
        have x1 := blkC hh4 1
        have x2 := blkC hh4 2
        have x3 := blkC hh4 3
        simp only [List.getElem?_toArray, List.getElem?_cons_zero, List.getElem?_cons_succ] at x0 x1 x2 x3
        have hb4 := Lib.hid (hb3.out.trans (b4.mono hb3.out.size))
        replace hh4 := Lib.hid hh4
        clear b4
        have c5 := rheld_any nm r dl A n c ss B m d l key w4 (hD.out.keep hb4.out).nm (hD.out.keep hb4.out).ss hD.out.n hD.out.cap hD.out.keys (SL.keep hE.out hb4.out) (by omega)
        rw [← held_eq] at c5
        clear c4 hh3 hb3
        generalize (sumP nm r dl ss l key).1 = s1 at *
        generalize (sumP nm r dl ss l key).2 = s2 at *
        generalize (heldP nm r dl ss l key).1 = t1 at *
        generalize (heldP nm r dl ss l key).2.1 = t2 at *
        generalize (heldP nm r dl ss l key).2.2 = t3 at *
        go_wp2_with (fail)
        refine (c5).mono ?_
        rintro e w5 ⟨rfl, b5⟩
        clear x0 x1 x2 x3
        have hh5 := (b5.block _ (blkX hh4.out)).trans hh4.out
        have x0 := blkC hh5 0
        have x1 := blkC hh5 1
        have x2 := blkC hh5 2
        have x3 := blkC hh5 3
        simp only [List.getElem?_toArray, List.getElem?_cons_zero, List.getElem?_cons_succ] at x0 x1 x2 x3
        have hb5 := Lib.hid (hb4.out.trans (b5.mono hb4.out.size))
        replace hh5 := Lib.hid hh5
        clear b5
        clear x0 x1 x2 x3
        go_wp2_with (fail)
        refine (works_any _).mono ?_
        rintro e w9 ⟨rfl, b9⟩
        go_wp2_with (fail)
        go_ret
        exact ⟨rfl, hb5.out.trans (b9.mono hb5.out.size)⟩
end Go.Proofs.YthmkfbabacehnaaDoor
