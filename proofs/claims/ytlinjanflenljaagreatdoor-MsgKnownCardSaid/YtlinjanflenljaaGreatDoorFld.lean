/- Kinds by their numbers, and the row of fields. -/
import Derived.Test.YtlinjanflenljaaGreatDoorWB
import Derived.Test.YtlinjanflenljaaGreatDoorChk
namespace Go.Proofs.YtlinjanflenljaaGreatDoor
open Go.RowKit
set_option linter.unusedSimpArgs false
set_option linter.unusedVariables false
set_option linter.unusedSectionVars false
set_option maxRecDepth 10000
theorem cell_lt {w : World} {g i : Nat} {v : Value} (h : w.cell? ⟨g, i, none⟩ = some v) : g < w.heap.size := by
  rcases Nat.lt_or_ge g w.heap.size with hl | hl
  · exact hl
  · have : w.heap[g]? = none := Array.getElem?_eq_none hl
    simp [World.cell?, this] at h
def b2i (b : Bool) (x : Int) : Int := if b = true then x else 0
/-- The bits of the fields that a kind uses. -/
def usesM (k : Int) : Int := b2i (uB k) 1 + b2i (uS k) 2 + b2i (uN k) 4 + b2i (uV k) 8 + b2i (uL k) 16
theorem kinds_at (i : Nat) (hi : i < 12) : kindsArr[i * 5]? = some (.string (sOf (wordM (i : Int)))) ∧ kindsArr[i * 5 + 1]? = some (.int .i64 (usesM i)) ∧ kindsArr[i * 5 + 2]? = some (.int .i64 (kSl i)) ∧ kindsArr[i * 5 + 3]? = some (.int .i64 (kLo i)) ∧ kindsArr[i * 5 + 4]? = some (.int .i64 (kHi i)) := by
  have : i = 0 ∨ i = 1 ∨ i = 2 ∨ i = 3 ∨ i = 4 ∨ i = 5 ∨ i = 6 ∨ i = 7 ∨ i = 8 ∨ i = 9 ∨ i = 10 ∨ i = 11 := by omega
  rcases this with rfl | rfl | rfl | rfl | rfl | rfl | rfl | rfl | rfl | rfl | rfl | rfl <;> exact ⟨rfl, rfl, rfl, rfl, rfl⟩
theorem kind_out {k : Int} (h : k < 1 ∨ 12 ≤ k) : wordM k = [] ∧ usesM k = 0 ∧ kSl k = 0 ∧ kLo k = 0 ∧ kHi k = 0 := by
  refine ⟨?_, ?_, ?_, ?_, ?_⟩
  · unfold wordM
    rcases h with h | h
    · rw [show k.toNat = 0 from by omega]; rfl
    · rw [List.getD_eq_getElem?_getD, List.getElem?_eq_none (by simp [wordL]; omega)]; rfl
  · have h1 : uB k = false := by unfold uB; exact decide_eq_false (by omega)
    have h2 : uS k = false := by unfold uS; exact decide_eq_false (by omega)
    have h3 : uN k = false := by unfold uN; exact decide_eq_false (by omega)
    have h4 : uV k = false := by unfold uV; exact decide_eq_false (by omega)
    have h5 : uL k = false := by unfold uL; exact decide_eq_false (by omega)
    unfold usesM
    rw [h1, h2, h3, h4, h5]; rfl
  · unfold kSl; rw [if_neg (by omega), if_neg (by omega)]
  · unfold kLo; rw [if_neg (by omega)]
  · unfold kHi; rw [if_neg (by omega), if_neg (by omega)]
set_option maxHeartbeats 2000000 in
theorem find_any (k : Int) (w : World) (hL : Ldr w) : Calls Tryz.prog 30 #[.int .i64 k] w fun e w' => e = .returned (.tuple #[.agg #[.string (sOf (wordM k)), .int .i64 (usesM k), .int .i64 (kSl k), .int .i64 (kLo k), .int .i64 (kHi k)], .bool (inK k)]) ∧ Below w.heap.size w w' := by
  have kb := Lib.hid ((Below.refl _ w).alloc (Nat.le_refl _) (.cells #[.string ByteArray.empty, .int .i64 0, .int .i64 0, .int .i64 0, .int .i64 0] 55))
  by_cases hk : 1 ≤ k ∧ k < 12
  · obtain ⟨i, rfl⟩ : ∃ i : Nat, k = (i : Int) := ⟨k.toNat, by omega⟩
    obtain ⟨a0, a1, a2, a3, a4⟩ := kinds_at i (by omega)
    have c0 := (hL.kind (i * 5)).trans a0
    have c1 := (hL.kind (i * 5 + 1)).trans a1
    have c2 := (hL.kind (i * 5 + 2)).trans a2
    have c3 := (hL.kind (i * 5 + 3)).trans a3
    have c4 := (hL.kind (i * 5 + 4)).trans a4
    have hlt : 0 < w.heap.size := cell_lt c0
    have hin := Lib.hid (show inK (i : Int) = true from by unfold inK; exact decide_eq_true (by omega))
    have l1 : ¬ (i : Int) < 1 := by omega
    have l2 : ¬ (12 : Int) ≤ i := by omega
    have l3 : i < 12 := by omega
    clear a0 a1 a2 a3 a4 hL hk
    generalize sOf (wordM (i : Int)) = q0 at *
    generalize usesM (i : Int) = q1 at *
    generalize kSl (i : Int) = q2 at *
    generalize kLo (i : Int) = q3 at *
    generalize kHi (i : Int) = q4 at *
    go_enter Tryz.func30, Tryz.ntmps30
    go_wp2_with (fail)
    refine bodyPost_ret (by simp [results, Tryz.results30, go_sem, *]; try with_reducible rfl) rfl ?_
    exact ⟨by rw [hin.out], by repeat (first | exact kb.out | exact Below.refl _ _ | (refine Below.setCell ?_ (by simp) _) | (refine Below.alloc ?_ (by simp) _))⟩
  · obtain ⟨a0, a1, a2, a3, a4⟩ := kind_out (k := k) (by omega)
    have hin := Lib.hid (show inK k = false from by unfold inK; exact decide_eq_false (by omega))
    rw [a0, a1, a2, a3, a4]
    by_cases h1 : k < 1
    · go_enter Tryz.func30, Tryz.ntmps30
      go_wp2_with (fail)
      refine bodyPost_ret (by simp [results, Tryz.results30, go_sem, *]; try with_reducible rfl) rfl ?_
      exact ⟨by rw [hin.out]; rfl, by repeat (first | exact kb.out | exact Below.refl _ _ | (refine Below.setCell ?_ (by simp) _) | (refine Below.alloc ?_ (by simp) _))⟩
    · have h2 : (12 : Int) ≤ k := by omega
      go_enter Tryz.func30, Tryz.ntmps30
      go_wp2_with (fail)
      refine bodyPost_ret (by simp [results, Tryz.results30, go_sem, *]; try with_reducible rfl) rfl ?_
      exact ⟨by rw [hin.out]; rfl, by repeat (first | exact kb.out | exact Below.refl _ _ | (refine Below.setCell ?_ (by simp) _) | (refine Below.alloc ?_ (by simp) _))⟩
def fnOk (j : Nat) : Nat := match j with
  | 0 => 56 | 1 => 65 | 2 => 71 | 3 => 76 | _ => 84
def fnZero (j : Nat) : Nat := match j with
  | 0 => 58 | 1 => 66 | 2 => 72 | 3 => 77 | _ => 85
def fnWr (j : Nat) : Nat := match j with
  | 0 => 59 | 1 => 67 | 2 => 73 | 3 => 78 | _ => 86
def fnTx (j : Nat) : Nat := match j with
  | 0 => 61 | 1 => 69 | 2 => 74 | 3 => 80 | _ => 87
def fnRd (j : Nat) : Nat := match j with
  | 0 => 63 | 1 => 70 | 2 => 75 | 3 => 82 | _ => 88
def fldArr : Array Value := #[.int .i64 1, .func (.func 56) #[] #[], .func (.func 58) #[] #[], .func (.func 59) #[] #[], .func (.func 61) #[] #[], .func (.func 63) #[] #[], .int .i64 2, .func (.func 65) #[] #[], .func (.func 66) #[] #[], .func (.func 67) #[] #[], .func (.func 69) #[] #[], .func (.func 70) #[] #[], .int .i64 4, .func (.func 71) #[] #[], .func (.func 72) #[] #[], .func (.func 73) #[] #[], .func (.func 74) #[] #[], .func (.func 75) #[] #[], .int .i64 8, .func (.func 76) #[] #[], .func (.func 77) #[] #[], .func (.func 78) #[] #[], .func (.func 80) #[] #[], .func (.func 82) #[] #[], .int .i64 16, .func (.func 84) #[] #[], .func (.func 85) #[] #[], .func (.func 86) #[] #[], .func (.func 87) #[] #[], .func (.func 88) #[] #[]]
theorem fld_at (j : Nat) (hj : j < 5) : fldArr[j * 6]? = some (.int .i64 (useBit j)) ∧ fldArr[j * 6 + 1]? = some (.func (.func (fnOk j)) #[] #[]) ∧ fldArr[j * 6 + 2]? = some (.func (.func (fnZero j)) #[] #[]) ∧ fldArr[j * 6 + 3]? = some (.func (.func (fnWr j)) #[] #[]) ∧ fldArr[j * 6 + 4]? = some (.func (.func (fnTx j)) #[] #[]) ∧ fldArr[j * 6 + 5]? = some (.func (.func (fnRd j)) #[] #[]) := by
  have : j = 0 ∨ j = 1 ∨ j = 2 ∨ j = 3 ∨ j = 4 := by omega
  rcases this with rfl | rfl | rfl | rfl | rfl <;> exact ⟨rfl, rfl, rfl, rfl, rfl, rfl⟩
set_option maxHeartbeats 2000000 in
theorem fields_any (w : World) : Calls Tryz.prog 31 #[] w fun e w' => e = .returned (.slice (some ⟨w.heap.size, 0, none⟩) 5 5) ∧ w' = w.alloc (.cells fldArr 65) := by
  go_enter Tryz.func31, Tryz.ntmps31
  go_wp2_with (fail)
  go_ret
  exact ⟨rfl, rfl⟩
theorem fo0 : fnOk 0 = 56 := rfl
theorem fo1 : fnOk 1 = 65 := rfl
theorem fo2 : fnOk 2 = 71 := rfl
theorem fo3 : fnOk 3 = 76 := rfl
theorem fo4 : fnOk 4 = 84 := rfl
theorem fz0 : fnZero 0 = 58 := rfl
theorem fz1 : fnZero 1 = 66 := rfl
theorem fz2 : fnZero 2 = 72 := rfl
theorem fz3 : fnZero 3 = 77 := rfl
theorem fz4 : fnZero 4 = 85 := rfl
theorem fw0 : fnWr 0 = 59 := rfl
theorem fw1 : fnWr 1 = 67 := rfl
theorem fw2 : fnWr 2 = 73 := rfl
theorem fw3 : fnWr 3 = 78 := rfl
theorem fw4 : fnWr 4 = 86 := rfl
theorem ft0 : fnTx 0 = 61 := rfl
theorem ft1 : fnTx 1 = 69 := rfl
theorem ft2 : fnTx 2 = 74 := rfl
theorem ft3 : fnTx 3 = 80 := rfl
theorem ft4 : fnTx 4 = 87 := rfl
theorem fr0 : fnRd 0 = 63 := rfl
theorem fr1 : fnRd 1 = 70 := rfl
theorem fr2 : fnRd 2 = 75 := rfl
theorem fr3 : fnRd 3 = 82 := rfl
theorem fr4 : fnRd 4 = 88 := rfl
theorem ub0 : useBit 0 = 1 := rfl
theorem ub1 : useBit 1 = 2 := rfl
theorem ub2 : useBit 2 = 4 := rfl
theorem ub3 : useBit 3 = 8 := rfl
theorem ub4 : useBit 4 = 16 := rfl
theorem callOk (j : Nat) (hj : j < 5) : ∀ (args : Array Value) (w : World), (callFunc (fnOk j) args).run Tryz.prog w = .ok (.enter (fnOk j) args) w := by
  have : j = 0 ∨ j = 1 ∨ j = 2 ∨ j = 3 ∨ j = 4 := by omega
  rcases this with rfl | rfl | rfl | rfl | rfl
  · exact enters_of Tryz.func56 (by kernel_rfl) rfl
  · exact enters_of Tryz.func65 (by kernel_rfl) rfl
  · exact enters_of Tryz.func71 (by kernel_rfl) rfl
  · exact enters_of Tryz.func76 (by kernel_rfl) rfl
  · exact enters_of Tryz.func84 (by kernel_rfl) rfl
theorem callZero (j : Nat) (hj : j < 5) : ∀ (args : Array Value) (w : World), (callFunc (fnZero j) args).run Tryz.prog w = .ok (.enter (fnZero j) args) w := by
  have : j = 0 ∨ j = 1 ∨ j = 2 ∨ j = 3 ∨ j = 4 := by omega
  rcases this with rfl | rfl | rfl | rfl | rfl
  · exact enters_of Tryz.func58 (by kernel_rfl) rfl
  · exact enters_of Tryz.func66 (by kernel_rfl) rfl
  · exact enters_of Tryz.func72 (by kernel_rfl) rfl
  · exact enters_of Tryz.func77 (by kernel_rfl) rfl
  · exact enters_of Tryz.func85 (by kernel_rfl) rfl
theorem callWr (j : Nat) (hj : j < 5) : ∀ (args : Array Value) (w : World), (callFunc (fnWr j) args).run Tryz.prog w = .ok (.enter (fnWr j) args) w := by
  have : j = 0 ∨ j = 1 ∨ j = 2 ∨ j = 3 ∨ j = 4 := by omega
  rcases this with rfl | rfl | rfl | rfl | rfl
  · exact enters_of Tryz.func59 (by kernel_rfl) rfl
  · exact enters_of Tryz.func67 (by kernel_rfl) rfl
  · exact enters_of Tryz.func73 (by kernel_rfl) rfl
  · exact enters_of Tryz.func78 (by kernel_rfl) rfl
  · exact enters_of Tryz.func86 (by kernel_rfl) rfl
theorem callTx (j : Nat) (hj : j < 5) : ∀ (args : Array Value) (w : World), (callFunc (fnTx j) args).run Tryz.prog w = .ok (.enter (fnTx j) args) w := by
  have : j = 0 ∨ j = 1 ∨ j = 2 ∨ j = 3 ∨ j = 4 := by omega
  rcases this with rfl | rfl | rfl | rfl | rfl
  · exact enters_of Tryz.func61 (by kernel_rfl) rfl
  · exact enters_of Tryz.func69 (by kernel_rfl) rfl
  · exact enters_of Tryz.func74 (by kernel_rfl) rfl
  · exact enters_of Tryz.func80 (by kernel_rfl) rfl
  · exact enters_of Tryz.func87 (by kernel_rfl) rfl
theorem callRd (j : Nat) (hj : j < 5) : ∀ (args : Array Value) (w : World), (callFunc (fnRd j) args).run Tryz.prog w = .ok (.enter (fnRd j) args) w := by
  have : j = 0 ∨ j = 1 ∨ j = 2 ∨ j = 3 ∨ j = 4 := by omega
  rcases this with rfl | rfl | rfl | rfl | rfl
  · exact enters_of Tryz.func63 (by kernel_rfl) rfl
  · exact enters_of Tryz.func70 (by kernel_rfl) rfl
  · exact enters_of Tryz.func75 (by kernel_rfl) rfl
  · exact enters_of Tryz.func82 (by kernel_rfl) rfl
  · exact enters_of Tryz.func88 (by kernel_rfl) rfl
end Go.Proofs.YtlinjanflenljaaGreatDoor

namespace Go.Proofs.YtlinjanflenljaaGreatDoor
open Go.RowKit
set_option linter.unusedSimpArgs false
set_option linter.unusedVariables false
set_option linter.unusedSectionVars false
set_option maxRecDepth 10000
theorem goodB_vld (r n : Int) : goodB r n = (vld r n 7 && !decide (r = 0 ∧ n = 0)) := by
  unfold goodB vld
  rw [Bool.eq_iff_iff]
  simp only [Bool.and_eq_true, decide_eq_true_eq, Bool.not_eq_true', decide_eq_false_iff_not]
  omega
theorem zero_beq (r n : Int) (h : ¬ (r = 0 ∧ n = 0)) : ((r == 0) && (n == 0)) = false := by
  rw [Bool.eq_false_iff]; intro q; rw [Bool.and_eq_true, beq_iff_eq, beq_iff_eq] at q; exact h q
set_option maxHeartbeats 2000000 in
theorem good_any (r n : Int) (w : World) : Calls Tryz.prog 57 #[.agg #[.int .i64 r, .int .i64 n]] w fun e w' => e = .returned (.bool (goodB r n)) ∧ Below w.heap.size w w' := by
  have kb := (Below.refl _ w).alloc (Nat.le_refl _) (.cells #[.int .i64 r, .int .i64 n] 25)
  have hcs := kb.size
  replace kb := Lib.hid kb
  by_cases h0 : r = 0 ∧ n = 0
  · obtain ⟨rfl, rfl⟩ := h0
    go_enter Tryz.func57, Tryz.ntmps57
    go_wp2_with (fail)
    go_ret
    exact ⟨rfl, kb.out⟩
  · have hg := goodB_vld r n
    rw [show decide (r = 0 ∧ n = 0) = false from decide_eq_false h0, Bool.not_false, Bool.and_true] at hg
    replace hg := Lib.hid hg
    have hr0 : (¬ r = 0) ∨ (r = 0 ∧ ¬ n = 0) := by omega
    rcases hr0 with hr0 | ⟨rfl, hr0⟩
    · rcases Bool.eq_false_or_eq_true (vld r n 7) with hv | hv
      · have hck := Lib.hid (chkE_ok hv)
        replace hv := Lib.hid hv
        go_enter Tryz.func57, Tryz.ntmps57
        go_wp2_with (fail)
        refine (check_any _ _ _ _).mono ?_
        rintro e w1 ⟨he, b1⟩
        rw [hck.out] at he; subst he
        have kb2 := Lib.hid (kb.out.trans (b1.mono hcs))
        clear b1 hcs h0 hr0
        go_wp2_with (fail)
        go_ret
        exact ⟨by rw [hg.out, hv.out]; rfl, kb2.out⟩
      · have hck := Lib.hid (chkE_bad hv)
        replace hv := Lib.hid hv
        go_enter Tryz.func57, Tryz.ntmps57
        go_wp2_with (fail)
        refine (check_any _ _ _ _).mono ?_
        rintro e w1 ⟨he, b1⟩
        rw [hck.out] at he; subst he
        have kb2 := Lib.hid (kb.out.trans (b1.mono hcs))
        clear b1 hcs h0 hr0
        go_wp2_with (fail)
        go_ret
        exact ⟨by rw [hg.out, hv.out]; rfl, kb2.out⟩
    · rcases Bool.eq_false_or_eq_true (vld 0 n 7) with hv | hv
      · have hck := Lib.hid (chkE_ok hv)
        replace hv := Lib.hid hv
        go_enter Tryz.func57, Tryz.ntmps57
        go_wp2_with (fail)
        refine (check_any _ _ _ _).mono ?_
        rintro e w1 ⟨he, b1⟩
        rw [hck.out] at he; subst he
        have kb2 := Lib.hid (kb.out.trans (b1.mono hcs))
        clear b1 hcs h0 hr0
        go_wp2_with (fail)
        go_ret
        exact ⟨by rw [hg.out, hv.out]; rfl, kb2.out⟩
      · have hck := Lib.hid (chkE_bad hv)
        replace hv := Lib.hid hv
        go_enter Tryz.func57, Tryz.ntmps57
        go_wp2_with (fail)
        refine (check_any _ _ _ _).mono ?_
        rintro e w1 ⟨he, b1⟩
        rw [hck.out] at he; subst he
        have kb2 := Lib.hid (kb.out.trans (b1.mono hcs))
        clear b1 hcs h0 hr0
        go_wp2_with (fail)
        go_ret
        exact ⟨by rw [hg.out, hv.out]; rfl, kb2.out⟩
end Go.Proofs.YtlinjanflenljaaGreatDoor

namespace Go.Proofs.YtlinjanflenljaaGreatDoor
open Go.RowKit
set_option linter.unusedSimpArgs false
set_option linter.unusedVariables false
set_option linter.unusedSectionVars false
set_option maxRecDepth 10000
set_option maxHeartbeats 2000000 in
theorem ok0_any (m : Mg) (A : Option Addr) (c : Nat) (w : World) : Calls Tryz.prog 56 #[.agg #[.string (sOf (wordM m.k)), .int .i64 (usesM m.k), .int .i64 (kSl m.k), .int .i64 (kLo m.k), .int .i64 (kHi m.k)], .agg #[.int .i64 m.k, .int .i64 m.fr, .int .i64 m.tt, .int .i64 m.ro, .int .i64 m.no, .int .i64 m.sl, .int .i64 m.nu, .string (sOf m.v), .slice A m.l.length c]] w fun e w' => e = .returned (.bool (fOk 0 m)) ∧ Below w.heap.size w w' := by
  have kb := ((Below.refl _ w).alloc (Nat.le_refl _) (.cells #[.string (sOf (wordM m.k)), .int .i64 (usesM m.k), .int .i64 (kSl m.k), .int .i64 (kLo m.k), .int .i64 (kHi m.k)] 55)).alloc (by simp) (.cells #[.int .i64 m.k, .int .i64 m.fr, .int .i64 m.tt, .int .i64 m.ro, .int .i64 m.no, .int .i64 m.sl, .int .i64 m.nu, .string (sOf m.v), .slice A m.l.length c] 28)
  have hcs := kb.size
  replace kb := Lib.hid kb
  go_enter Tryz.func56, Tryz.ntmps56
  go_wp2_with (go_at_call 57; refine (good_any m.ro m.no _).mono ?_; rintro e w1 ⟨rfl, b1⟩)
  go_ret
  exact ⟨rfl, kb.out.trans (b1.mono hcs)⟩
set_option maxHeartbeats 2000000 in
theorem ok1_any (m : Mg) (A : Option Addr) (c : Nat) (w : World) : Calls Tryz.prog 65 #[.agg #[.string (sOf (wordM m.k)), .int .i64 (usesM m.k), .int .i64 (kSl m.k), .int .i64 (kLo m.k), .int .i64 (kHi m.k)], .agg #[.int .i64 m.k, .int .i64 m.fr, .int .i64 m.tt, .int .i64 m.ro, .int .i64 m.no, .int .i64 m.sl, .int .i64 m.nu, .string (sOf m.v), .slice A m.l.length c]] w fun e w' => e = .returned (.bool (fOk 1 m)) ∧ Below w.heap.size w w' := by
  have kb := ((Below.refl _ w).alloc (Nat.le_refl _) (.cells #[.string (sOf (wordM m.k)), .int .i64 (usesM m.k), .int .i64 (kSl m.k), .int .i64 (kLo m.k), .int .i64 (kHi m.k)] 55)).alloc (by simp) (.cells #[.int .i64 m.k, .int .i64 m.fr, .int .i64 m.tt, .int .i64 m.ro, .int .i64 m.no, .int .i64 m.sl, .int .i64 m.nu, .string (sOf m.v), .slice A m.l.length c] 28)
  have hcs := kb.size
  replace kb := Lib.hid kb
  have hf := Lib.hid (show fOk 1 m = decide (0 ≤ m.sl ∧ m.sl ≤ kSl m.k) from rfl)
  by_cases h1 : 0 ≤ m.sl
  · by_cases h2 : m.sl ≤ kSl m.k
    · have hr := Lib.hid (decide_eq_true (show 0 ≤ m.sl ∧ m.sl ≤ kSl m.k from ⟨h1, h2⟩))
      go_enter Tryz.func65, Tryz.ntmps65
      go_wp2_with (fail)
      go_ret
      exact ⟨by rw [hf.out, hr.out]; rfl, kb.out⟩
    · have hr := Lib.hid (decide_eq_false (show ¬ (0 ≤ m.sl ∧ m.sl ≤ kSl m.k) from fun q => h2 q.2))
      go_enter Tryz.func65, Tryz.ntmps65
      go_wp2_with (fail)
      go_ret
      exact ⟨by rw [hf.out, hr.out]; rfl, kb.out⟩
  · have hr := Lib.hid (decide_eq_false (show ¬ (0 ≤ m.sl ∧ m.sl ≤ kSl m.k) from fun q => h1 q.1))
    go_enter Tryz.func65, Tryz.ntmps65
    go_wp2_with (fail)
    go_ret
    exact ⟨by rw [hf.out, hr.out]; rfl, kb.out⟩
set_option maxHeartbeats 2000000 in
theorem ok2_any (m : Mg) (A : Option Addr) (c : Nat) (w : World) : Calls Tryz.prog 71 #[.agg #[.string (sOf (wordM m.k)), .int .i64 (usesM m.k), .int .i64 (kSl m.k), .int .i64 (kLo m.k), .int .i64 (kHi m.k)], .agg #[.int .i64 m.k, .int .i64 m.fr, .int .i64 m.tt, .int .i64 m.ro, .int .i64 m.no, .int .i64 m.sl, .int .i64 m.nu, .string (sOf m.v), .slice A m.l.length c]] w fun e w' => e = .returned (.bool (fOk 2 m)) ∧ Below w.heap.size w w' := by
  have kb := ((Below.refl _ w).alloc (Nat.le_refl _) (.cells #[.string (sOf (wordM m.k)), .int .i64 (usesM m.k), .int .i64 (kSl m.k), .int .i64 (kLo m.k), .int .i64 (kHi m.k)] 55)).alloc (by simp) (.cells #[.int .i64 m.k, .int .i64 m.fr, .int .i64 m.tt, .int .i64 m.ro, .int .i64 m.no, .int .i64 m.sl, .int .i64 m.nu, .string (sOf m.v), .slice A m.l.length c] 28)
  have hcs := kb.size
  replace kb := Lib.hid kb
  have hf := Lib.hid (show fOk 2 m = decide (kLo m.k ≤ m.nu ∧ m.nu ≤ kHi m.k) from rfl)
  by_cases h1 : kLo m.k ≤ m.nu
  · by_cases h2 : m.nu ≤ kHi m.k
    · have hr := Lib.hid (decide_eq_true (show kLo m.k ≤ m.nu ∧ m.nu ≤ kHi m.k from ⟨h1, h2⟩))
      go_enter Tryz.func71, Tryz.ntmps71
      go_wp2_with (fail)
      go_ret
      exact ⟨by rw [hf.out, hr.out]; rfl, kb.out⟩
    · have hr := Lib.hid (decide_eq_false (show ¬ (kLo m.k ≤ m.nu ∧ m.nu ≤ kHi m.k) from fun q => h2 q.2))
      go_enter Tryz.func71, Tryz.ntmps71
      go_wp2_with (fail)
      go_ret
      exact ⟨by rw [hf.out, hr.out]; rfl, kb.out⟩
  · have hr := Lib.hid (decide_eq_false (show ¬ (kLo m.k ≤ m.nu ∧ m.nu ≤ kHi m.k) from fun q => h1 q.1))
    go_enter Tryz.func71, Tryz.ntmps71
    go_wp2_with (fail)
    go_ret
    exact ⟨by rw [hf.out, hr.out]; rfl, kb.out⟩
set_option maxHeartbeats 2000000 in
theorem ok3_any (m : Mg) (A : Option Addr) (c : Nat) (w : World) : Calls Tryz.prog 76 #[.agg #[.string (sOf (wordM m.k)), .int .i64 (usesM m.k), .int .i64 (kSl m.k), .int .i64 (kLo m.k), .int .i64 (kHi m.k)], .agg #[.int .i64 m.k, .int .i64 m.fr, .int .i64 m.tt, .int .i64 m.ro, .int .i64 m.no, .int .i64 m.sl, .int .i64 m.nu, .string (sOf m.v), .slice A m.l.length c]] w fun e w' => e = .returned (.bool (fOk 3 m)) ∧ Below w.heap.size w w' := by
  have kb := ((Below.refl _ w).alloc (Nat.le_refl _) (.cells #[.string (sOf (wordM m.k)), .int .i64 (usesM m.k), .int .i64 (kSl m.k), .int .i64 (kLo m.k), .int .i64 (kHi m.k)] 55)).alloc (by simp) (.cells #[.int .i64 m.k, .int .i64 m.fr, .int .i64 m.tt, .int .i64 m.ro, .int .i64 m.no, .int .i64 m.sl, .int .i64 m.nu, .string (sOf m.v), .slice A m.l.length c] 28)
  have hcs := kb.size
  replace kb := Lib.hid kb
  go_enter Tryz.func76, Tryz.ntmps76
  go_wp2_with (fail)
  go_ret
  exact ⟨rfl, kb.out⟩
set_option maxHeartbeats 2000000 in
theorem zero0_any (m : Mg) (A : Option Addr) (c : Nat) (w : World) : Calls Tryz.prog 58 #[.agg #[.int .i64 m.k, .int .i64 m.fr, .int .i64 m.tt, .int .i64 m.ro, .int .i64 m.no, .int .i64 m.sl, .int .i64 m.nu, .string (sOf m.v), .slice A m.l.length c]] w fun e w' => e = .returned (.bool (fZero 0 m)) ∧ Below w.heap.size w w' := by
  have kb := (Below.refl _ w).alloc (Nat.le_refl _) (.cells #[.int .i64 m.k, .int .i64 m.fr, .int .i64 m.tt, .int .i64 m.ro, .int .i64 m.no, .int .i64 m.sl, .int .i64 m.nu, .string (sOf m.v), .slice A m.l.length c] 28)
  have hcs := kb.size
  replace kb := Lib.hid kb
  have hf : fZero 0 m = decide (m.ro = 0 ∧ m.no = 0) := rfl
  obtain ⟨k, fr, tt, ro, no, sl, nu, v, l⟩ := m
  dsimp only at hf kb hcs ⊢
  have h0 : (ro = 0 ∧ no = 0) ∨ ¬ ro = 0 ∨ (ro = 0 ∧ ¬ no = 0) := by omega
  rcases h0 with ⟨rfl, rfl⟩ | h0 | ⟨rfl, h0⟩
  · replace hf := Lib.hid (hf.trans (decide_eq_true ⟨rfl, rfl⟩))
    go_enter Tryz.func58, Tryz.ntmps58
    go_wp2_with (fail)
    go_ret
    exact ⟨by rw [hf.out]; rfl, kb.out⟩
  · replace hf := Lib.hid (hf.trans (decide_eq_false fun q => h0 q.1))
    go_enter Tryz.func58, Tryz.ntmps58
    go_wp2_with (fail)
    go_ret
    exact ⟨by rw [hf.out]; rfl, kb.out⟩
  · replace hf := Lib.hid (hf.trans (decide_eq_false fun q => h0 q.2))
    go_enter Tryz.func58, Tryz.ntmps58
    go_wp2_with (fail)
    go_ret
    exact ⟨by rw [hf.out]; rfl, kb.out⟩
set_option maxHeartbeats 2000000 in
theorem zero1_any (m : Mg) (A : Option Addr) (c : Nat) (w : World) : Calls Tryz.prog 66 #[.agg #[.int .i64 m.k, .int .i64 m.fr, .int .i64 m.tt, .int .i64 m.ro, .int .i64 m.no, .int .i64 m.sl, .int .i64 m.nu, .string (sOf m.v), .slice A m.l.length c]] w fun e w' => e = .returned (.bool (fZero 1 m)) ∧ Below w.heap.size w w' := by
  have kb := (Below.refl _ w).alloc (Nat.le_refl _) (.cells #[.int .i64 m.k, .int .i64 m.fr, .int .i64 m.tt, .int .i64 m.ro, .int .i64 m.no, .int .i64 m.sl, .int .i64 m.nu, .string (sOf m.v), .slice A m.l.length c] 28)
  have hcs := kb.size
  replace kb := Lib.hid kb
  have hf := Lib.hid (show fZero 1 m = decide (m.sl = 0) from rfl)
  by_cases h0 : m.sl = 0
  · have hr := Lib.hid (decide_eq_true h0)
    have h1 : (m.sl == 0) = true := by simp [h0]
    replace h0 := Lib.hid h0
    go_enter Tryz.func66, Tryz.ntmps66
    go_wp2_with (fail)
    go_ret
    exact ⟨by rw [hf.out, hr.out]; rfl, kb.out⟩
  · have hr := Lib.hid (decide_eq_false h0)
    have h1 : (m.sl == 0) = false := by simp [h0]
    replace h0 := Lib.hid h0
    go_enter Tryz.func66, Tryz.ntmps66
    go_wp2_with (fail)
    go_ret
    exact ⟨by rw [hf.out, hr.out]; rfl, kb.out⟩
set_option maxHeartbeats 2000000 in
theorem zero2_any (m : Mg) (A : Option Addr) (c : Nat) (w : World) : Calls Tryz.prog 72 #[.agg #[.int .i64 m.k, .int .i64 m.fr, .int .i64 m.tt, .int .i64 m.ro, .int .i64 m.no, .int .i64 m.sl, .int .i64 m.nu, .string (sOf m.v), .slice A m.l.length c]] w fun e w' => e = .returned (.bool (fZero 2 m)) ∧ Below w.heap.size w w' := by
  have kb := (Below.refl _ w).alloc (Nat.le_refl _) (.cells #[.int .i64 m.k, .int .i64 m.fr, .int .i64 m.tt, .int .i64 m.ro, .int .i64 m.no, .int .i64 m.sl, .int .i64 m.nu, .string (sOf m.v), .slice A m.l.length c] 28)
  have hcs := kb.size
  replace kb := Lib.hid kb
  have hf := Lib.hid (show fZero 2 m = decide (m.nu = 0) from rfl)
  by_cases h0 : m.nu = 0
  · have hr := Lib.hid (decide_eq_true h0)
    have h1 : (m.nu == 0) = true := by simp [h0]
    replace h0 := Lib.hid h0
    go_enter Tryz.func72, Tryz.ntmps72
    go_wp2_with (fail)
    go_ret
    exact ⟨by rw [hf.out, hr.out]; rfl, kb.out⟩
  · have hr := Lib.hid (decide_eq_false h0)
    have h1 : (m.nu == 0) = false := by simp [h0]
    replace h0 := Lib.hid h0
    go_enter Tryz.func72, Tryz.ntmps72
    go_wp2_with (fail)
    go_ret
    exact ⟨by rw [hf.out, hr.out]; rfl, kb.out⟩
theorem sOf_empty (v : List UInt8) : (sOf v).toList.isEmpty = decide (v = []) := by
  have : (sOf v).toList = v := ByteArray.toList_mk v
  rw [this, Bool.eq_iff_iff, List.isEmpty_iff, decide_eq_true_eq]
set_option maxHeartbeats 2000000 in
theorem zero3_any (m : Mg) (A : Option Addr) (c : Nat) (w : World) : Calls Tryz.prog 77 #[.agg #[.int .i64 m.k, .int .i64 m.fr, .int .i64 m.tt, .int .i64 m.ro, .int .i64 m.no, .int .i64 m.sl, .int .i64 m.nu, .string (sOf m.v), .slice A m.l.length c]] w fun e w' => e = .returned (.bool (fZero 3 m)) ∧ Below w.heap.size w w' := by
  have kb := (Below.refl _ w).alloc (Nat.le_refl _) (.cells #[.int .i64 m.k, .int .i64 m.fr, .int .i64 m.tt, .int .i64 m.ro, .int .i64 m.no, .int .i64 m.sl, .int .i64 m.nu, .string (sOf m.v), .slice A m.l.length c] 28)
  have hcs := kb.size
  replace kb := Lib.hid kb
  have hf := Lib.hid (show fZero 3 m = decide (m.v = []) from rfl)
  have h1 := sOf_empty m.v
  rcases Bool.eq_false_or_eq_true (decide (m.v = [])) with h | h <;> rw [h] at h1 hf
  all_goals
    replace h := Lib.hid h
    go_enter Tryz.func77, Tryz.ntmps77
    go_wp2_with (fail)
    go_ret
    exact ⟨by rw [hf.out]; rfl, kb.out⟩
set_option maxHeartbeats 2000000 in
theorem zero4_any (m : Mg) (A : Option Addr) (c : Nat) (w : World) : Calls Tryz.prog 85 #[.agg #[.int .i64 m.k, .int .i64 m.fr, .int .i64 m.tt, .int .i64 m.ro, .int .i64 m.no, .int .i64 m.sl, .int .i64 m.nu, .string (sOf m.v), .slice A m.l.length c]] w fun e w' => e = .returned (.bool (fZero 4 m)) ∧ Below w.heap.size w w' := by
  have kb := (Below.refl _ w).alloc (Nat.le_refl _) (.cells #[.int .i64 m.k, .int .i64 m.fr, .int .i64 m.tt, .int .i64 m.ro, .int .i64 m.no, .int .i64 m.sl, .int .i64 m.nu, .string (sOf m.v), .slice A m.l.length c] 28)
  have hcs := kb.size
  replace kb := Lib.hid kb
  have hf := Lib.hid (show fZero 4 m = decide (m.l = []) from rfl)
  by_cases h0 : m.l = []
  · have hr := Lib.hid (decide_eq_true h0)
    have h1 : ((m.l.length : Int) == 0) = true := by simp [h0]
    replace h0 := Lib.hid h0
    generalize m.l.length = n at *
    go_enter Tryz.func85, Tryz.ntmps85
    go_wp2_with (fail)
    go_ret
    exact ⟨by rw [hf.out, hr.out]; rfl, kb.out⟩
  · have hr := Lib.hid (decide_eq_false h0)
    have h1 : ((m.l.length : Int) == 0) = false := by simp [h0]
    replace h0 := Lib.hid h0
    generalize m.l.length = n at *
    go_enter Tryz.func85, Tryz.ntmps85
    go_wp2_with (fail)
    go_ret
    exact ⟨by rw [hf.out, hr.out]; rfl, kb.out⟩
end Go.Proofs.YtlinjanflenljaaGreatDoor

namespace Go.Proofs.YtlinjanflenljaaGreatDoor
open Go.RowKit
set_option linter.unusedSimpArgs false
set_option linter.unusedVariables false
set_option linter.unusedSectionVars false
set_option maxRecDepth 10000
def longE (e : Ent) : Bool := decide (65536 < e.v.length)
set_option maxHeartbeats 2000000 in
theorem long_any (e : Ent) (w : World) : Calls Tryz.prog 42 #[.agg #[.int .i64 e.sl, .int .i64 e.ro, .int .i64 e.no, .string (sOf e.v)]] w fun r w' => r = .returned (.bool (longE e)) ∧ Below w.heap.size w w' := by
  have kb := Lib.hid ((Below.refl _ w).alloc (Nat.le_refl _) (.cells #[.int .i64 e.sl, .int .i64 e.ro, .int .i64 e.no, .string (sOf e.v)] 45))
  have hsz := sOf_size e.v
  by_cases h : 65536 < e.v.length
  · have hr := Lib.hid (show longE e = true from decide_eq_true h)
    have h1 : (65536 : Int) < ((sOf e.v).size : Int) := by omega
    have h2 : 65536 < (sOf e.v).size := by omega
    replace hsz := Lib.hid hsz
    clear h
    go_enter Tryz.func42, Tryz.ntmps42
    go_wp2_with (fail)
    go_ret
    exact ⟨by rw [hr.out]; rfl, kb.out⟩
  · have hr := Lib.hid (show longE e = false from decide_eq_false h)
    have h1 : ¬ (65536 : Int) < ((sOf e.v).size : Int) := by omega
    have h2 : ¬ 65536 < (sOf e.v).size := by omega
    replace hsz := Lib.hid hsz
    clear h
    go_enter Tryz.func42, Tryz.ntmps42
    go_wp2_with (fail)
    go_ret
    exact ⟨by rw [hr.out]; rfl, kb.out⟩
theorem any_take {l : List Ent} {i : Nat} {e : Ent} (h : l[i]? = some e) : (l.take (i + 1)).any longE = ((l.take i).any longE || longE e) := by
  rw [List.take_add_one, h, List.any_append]
  simp
theorem any_here {l : List Ent} {i : Nat} {e : Ent} (h : l[i]? = some e) (he : longE e = true) : l.any longE = true := List.any_eq_true.2 ⟨e, List.mem_of_getElem? h, he⟩
set_option maxHeartbeats 8000000 in
theorem index_any (A : Option Addr) (n c : Nat) (l : List Ent) (w : World) (hE : ES w A n l) (hn : n ≤ 70368744177664) : Calls Tryz.prog 92 #[.slice A n c, .func (.func 42) #[] #[]] w fun e w' => ∃ i : Int, e = .returned (.int .i64 i) ∧ decide (0 ≤ i) = l.any longE ∧ Below w.heap.size w w' := by
  have hl := Lib.hid hE.1
  replace hE := Lib.hid hE
  go_enter Tryz.func92, Tryz.ntmps92
  go_wp2_with (fail)
  go_loopw [8] (fun i wr => ∃ k : Nat, k ≤ n ∧ i = .int .i64 k ∧ (l.take k).any longE = false ∧ Below w.heap.size w wr) (fun i _ => n - (intOf i).toNat)
  case atStart => exact ⟨0, by omega, rfl, rfl, Below.refl _ _⟩
  case round =>
    revert wr
    intro W1 hrel
    obtain ⟨k, hk, rfl, hno, hb⟩ := hrel
    by_cases hlt : k < n
    · obtain ⟨b, o, e, rfl, hbl, hx, c0, c1, c2, c3⟩ := ES.at_ (SL.keep hE.out hb) hlt
      have k0 : (0 : Int) ≤ k := by omega
      have k1 : (k : Int) < (n : Int) := by omega
      rcases Bool.eq_false_or_eq_true (longE e) with hg | hg
      · have hfin := Lib.hid (any_here hx hg)
        have hc := fun W => long_any e W
        rw [hg] at hc
        replace hb := Lib.hid hb
        clear hx hno hg
        go_wp2_with (fail)
        refine (hc _).mono ?_
        rintro r w2 ⟨rfl, b2⟩
        have hb2 := Lib.hid (hb.out.trans (b2.mono hb.out.size))
        clear b2
        go_wp2_with (fail)
        go_ret
        exact ⟨_, rfl, by rw [hfin.out]; exact decide_eq_true k0, hb2.out⟩
      · have hnx := Lib.hid (show (l.take (k + 1)).any longE = false from by rw [any_take hx, hno, hg]; rfl)
        have hc := fun W => long_any e W
        rw [hg] at hc
        replace hb := Lib.hid hb
        clear hx hno hg
        go_wp2_with (fail)
        refine (hc _).mono ?_
        rintro r w2 ⟨rfl, b2⟩
        have hb2 := Lib.hid (hb.out.trans (b2.mono hb.out.size))
        clear b2
        go_wp2_with (fail)
        exact ⟨⟨k + 1, by omega, by go_num, hnx.out, hb2.out⟩, by simp [intOf]; omega⟩
    · obtain rfl : k = n := by omega
      have hfin := Lib.hid (show l.any longE = false from by rw [← hno, ← hl.out, List.take_length])
      replace hb := Lib.hid hb
      clear hno
      go_wp2_with (fail)
      go_ret
      exact ⟨_, rfl, by rw [hfin.out]; rfl, hb.out⟩
set_option maxHeartbeats 2000000 in
theorem contains_any (A : Option Addr) (n c : Nat) (l : List Ent) (w : World) (hE : ES w A n l) (hn : n ≤ 70368744177664) : Calls Tryz.prog 41 #[.slice A n c, .func (.func 42) #[] #[]] w fun e w' => e = .returned (.bool (l.any longE)) ∧ Below w.heap.size w w' := by
  have h := index_any A n c l w hE hn
  replace hE := Lib.hid hE
  go_enter Tryz.func41, Tryz.ntmps41
  go_wp2_with (fail)
  refine h.mono ?_
  rintro e w2 ⟨i, rfl, hi, b2⟩
  rcases Bool.eq_false_or_eq_true (l.any longE) with hg | hg
  · rw [hg] at hi
    have h0 : 0 ≤ i := of_decide_eq_true hi
    replace b2 := Lib.hid b2; replace hi := Lib.hid hi; replace hg := Lib.hid hg
    go_wp2_with (fail)
    go_ret
    exact ⟨by rw [hg.out]; rfl, b2.out⟩
  · rw [hg] at hi
    replace b2 := Lib.hid b2; replace hg := Lib.hid hg
    go_wp2_with (fail)
    go_ret
    exact ⟨by rw [hg.out, ← hi]; rfl, b2.out⟩
end Go.Proofs.YtlinjanflenljaaGreatDoor
