/- The laws' helper same; clear of a row of bytes. -/
import Derived.Test.YtcapeefhbkgogaaWorks
import Derived.Test.YtcapeefhbkgogaaRefS
namespace Go.Proofs.Ytcapeefhbkgogaa
open Go.RowKit
set_option linter.unusedSimpArgs false
set_option linter.unusedVariables false
set_option linter.unusedSectionVars false
set_option maxRecDepth 10000
def clearSem (ts : Array TypeId) (ty : TypeId) (args : Array Value) : Sem Value := Builtin.clear_ ts ty args
theorem hideClear (ts : Array TypeId) (ty : TypeId) (args : Array Value) : Builtin.clear_ ts ty args = clearSem ts ty args := rfl
theorem run_clear {w : World} {base n c : Nat} {A : Option Addr} {xs : List Value} (h : w.ownsRow base 5 1 (.slice A n c) n xs) :
    ∀ ty, ∃ w', (clearSem #[35] ty #[.slice A n c]).run Try.prog w = .ok (.tuple #[]) w' ∧ Chg (fun k => rowOf A = some k) w w' := by
  intro ty
  obtain ⟨i0, hi, hz0, hz1, hz2⟩ := info_parts byteInfo
  rcases h.2 with ⟨e, e2⟩ | ⟨g, cap, cur, e, _, hh, hle, _, hsz, _⟩
  · simp only [Value.slice.injEq] at e
    obtain ⟨rfl, rfl, rfl⟩ := e
    exact ⟨w, by simp [clearSem, Builtin.clear_, run_underlying Try.underlying35], Chg.refl _ w⟩
  · simp only [Value.slice.injEq, true_and] at e
    obtain ⟨rfl, rfl⟩ := e
    by_cases hn : n = 0
    · subst hn
      exact ⟨w, by simp [clearSem, Builtin.clear_, run_underlying Try.underlying35], Chg.refl _ w⟩
    · have hz1 : ∀ v ∈ (Builtin.zeroCells (Value.int .u8 0).cells n).toList, v.oneCell' = true := by
        intro v hv
        simp only [Builtin.zeroCells, Array.toList_map, List.mem_map] at hv
        obtain ⟨q, _, rfl⟩ := hv
        simp [Value.cells, Nat.mod_one]
        rfl
      have hzl : (Builtin.zeroCells (Value.int .u8 0).cells n).toList.length = n := by
        rw [Array.length_toList, size_zeroCells]
        exact Nat.mul_one n
      have hst := run_storeCells_at Try.prog g 0 5 (Builtin.zeroCells (Value.int .u8 0).cells n).toList 0 cur w hh (by rw [hzl]; omega) hz1
      refine ⟨w.setRow g (cur.toList.take (0 + 0) ++ (Builtin.zeroCells (Value.int .u8 0).cells n).toList ++ cur.toList.drop (0 + 0 + (Builtin.zeroCells (Value.int .u8 0).cells n).toList.length)).toArray, ?_, ⟨rfl, rfl, rfl, by simp, fun k hk hne => setRow_other w g k _ (fun e => hne (by rw [e]; rfl))⟩⟩
      have hu : (underlying 35).run Try.prog w = .ok (.slice 5) w := run_underlying Try.underlying35 w
      have hzv : (zeroValue 5).run Try.prog w = .ok (.int .u8 0) w := by simp [zeroValue, typeInfo, hi, hz0]
      obtain ⟨m, rfl⟩ : ∃ m, n = m + 1 := ⟨n - 1, by omega⟩
      simp only [clearSem, Builtin.clear_, Sem.run_bind, Sem.run_pure, Result.andThen_ok, List.getElem?_toArray, List.getElem?_cons_zero, hu, hzv, hst]
/-- Two readers in the same state. -/
structure TwoR (B : Nat) (w W : World) (g1 : Nat) (A1 : Option Addr) (c1 : Nat) (g2 : Nat) (A2 : Option Addr) (c2 : Nat) (s : RS) : Prop where
  a : IsRd W g1 A1 c1 s
  b : IsRr W g2 A2 c2 s
  la : B ≤ g1
  lb : B ≤ g2
  below : Below B w W
theorem TwoR.ne {B : Nat} {w W : World} {g1 c1 g2 c2 : Nat} {A1 A2 : Option Addr} {s : RS} (h : TwoR B w W g1 A1 c1 g2 A2 c2 s) : g1 ≠ g2 := by
  rintro rfl
  have := h.a.blk.symm.trans h.b.blk
  injection this with this; injection this with _ this; exact absurd this (by decide)
theorem IsRr.other {W W' : World} {g c g2 : Nat} {A : Option Addr} {s : RS} (h : IsRr W g A c s) {cs : Array Value} {t : TypeId} {fr : Nat × Nat} (hg : W.heap[g2]? = some (.cells cs t fr)) (hcs : ∀ (i : Nat) (c : UInt8), cs[i]? ≠ some (bv c))
    (hc : Chg (fun k => k = g2) W W') (hne : g ≠ g2) (ht : t ≠ 5 := by decide) : IsRr W' g A c s :=
  ⟨(hc.block g h.lt hne).trans h.blk, h.rb.setOther hg hcs hc, h.cap, h.len, h.typ.keep hc fun q e cs' fr' hb => by subst e; rw [hg] at hb; injection hb with hb; injection hb with _ hb; exact ht hb⟩
def TwoRTo (B : Nat) (w : World) (g1 g2 : Nat) (s : RS) (W' : World) : Prop := ∃ A1 c1 A2 c2, TwoR B w W' g1 A1 c1 g2 A2 c2 s
theorem TwoR.belowW {B : Nat} {w W W' : World} {g1 c1 g2 c2 : Nat} {A1 A2 : Option Addr} {s : RS} (h : TwoR B w W g1 A1 c1 g2 A2 c2 s) (hB : B ≤ W.heap.size) (hb : Below W.heap.size W W') : TwoR B w W' g1 A1 c1 g2 A2 c2 s :=
  ⟨h.a.below hb, h.b.below hb, h.la, h.lb, h.below.trans (hb.mono hB)⟩
/-- Behind a step of the program's reader. -/
theorem TwoR.stepA {B : Nat} {w W W' : World} {g1 c1 g2 c2 : Nat} {A1 A2 : Option Addr} {s s' : RS} (h : TwoR B w W g1 A1 c1 g2 A2 c2 s) (hB : B ≤ W.heap.size) (ht : RdTo W g1 s' W') :
    ∃ A' c', IsRd W' g1 A' c' s' ∧ IsRr W' g2 A2 c2 s ∧ Below B w W' := by
  obtain ⟨A', c', i, ch⟩ := ht
  exact ⟨A', c', i, h.b.other h.a.blk (rd_noByte _ _ _ _) ch h.ne.symm, Chg.belowAfter h.below ch hB (by rintro k hk rfl; have := h.la; omega)⟩
theorem TwoR.stepB {B : Nat} {w W W' : World} {g1 c1 g2 c2 : Nat} {A1 A2 : Option Addr} {s s' : RS} (ha : IsRd W g1 A1 c1 s') (hb : IsRr W g2 A2 c2 s) (la : B ≤ g1) (lb : B ≤ g2) (hne : g1 ≠ g2) (hw : Below B w W) (hB : B ≤ W.heap.size) (ht : RrTo W g2 s' W') :
    TwoRTo B w g1 g2 s' W' := by
  obtain ⟨A', c', i, ch⟩ := ht
  exact ⟨A1, c1, A', c', ha.other hb.blk (rr_noByte _ _ _ _) ch hne, i, la, lb, Chg.belowAfter hw ch hB (by rintro k hk rfl; omega)⟩
def nextS (s : RS) (k : Nat) : RS :=
  if k % 5 = 0 then (rdU s).2 else if k % 5 = 1 then (rdI s).2 else if k % 5 = 2 then (rdT s).2 else if k % 5 = 3 then (rdB s).2 else none
set_option maxHeartbeats 4000000 in
theorem same_any {B : Nat} {w W : World} {g1 c1 g2 c2 : Nat} {A1 A2 : Option Addr} {s : RS} (h : TwoR B w W g1 A1 c1 g2 A2 c2 s) (hB : B ≤ W.heap.size) (k : Nat) (hk : k < 256) :
    Calls Try.prog 29 #[.pointer (some ⟨g1, 0, none⟩), .pointer (some ⟨g2, 0, none⟩), .int .u8 k] W fun e w' => e = .returned (.bool true) ∧ TwoRTo B w g1 g2 (nextS s k) w' := by
  have hor : k % 5 = 0 ∨ k % 5 = 1 ∨ k % 5 = 2 ∨ k % 5 = 3 ∨ k % 5 = 4 := by omega
  have hne := h.ne
  rcases hor with hq | hq | hq | hq | hq
  · have hen : nextS s k = (rdU s).2 := by unfold nextS; simp [hq]
    replace hen := Lib.hid hen
    have b0 : ((k : Int) % 5 == 0) = true := by simp; omega
    have b1 : ((k : Int) % 5 == 1) = false := by simp; omega
    have b2 : ((k : Int) % 5 == 2) = false := by simp; omega
    have b3 : ((k : Int) % 5 == 3) = false := by simp; omega
    have b4 : ((k : Int) % 5 == 4) = false := by simp; omega
    clear hq hk
    go_enter Try.func29, Try.ntmps29
    go_wp2_with (fail)
    refine (rdUint_any s h.a).mono ?_
    rintro e w1 ⟨rfl, t1⟩
    have hB1 : B ≤ w1.heap.size := Nat.le_trans hB t1.choose_spec.choose_spec.2.size
    obtain ⟨A3, c3, i1, i2, hb⟩ := h.stepA hB t1
    clear t1
    go_wp2_with (fail)
    refine (rUintR_any s i2).mono ?_
    rintro e w2 ⟨rfl, t2⟩
    obtain ⟨A4, c4, A5, c5, h4⟩ := TwoR.stepB i1 i2 h.la h.lb hne hb hB1 t2
    clear t2 i1 i2 hb hB1
    go_wp2_with (fail)
    refine (left_p h4.a).mono ?_
    rintro e w3 ⟨rfl, rfl⟩
    go_wp2_with (fail)
    refine (rleft_p h4.b).mono ?_
    rintro e w3 ⟨rfl, rfl⟩
    go_wp2_with (fail)
    refine (end_p h4.a).mono ?_
    rintro e w3 ⟨rfl, rfl⟩
    go_wp2_with (fail)
    refine (rend_p h4.b).mono ?_
    rintro e w3 ⟨rfl, rfl⟩
    go_wp2_with (fail)
    go_ret
    exact ⟨by simp, A4, c4, A5, c5, by rw [hen.out]; exact h4⟩
  · have hen : nextS s k = (rdI s).2 := by unfold nextS; simp [hq]
    replace hen := Lib.hid hen
    have b0 : ((k : Int) % 5 == 0) = false := by simp; omega
    have b1 : ((k : Int) % 5 == 1) = true := by simp; omega
    have b2 : ((k : Int) % 5 == 2) = false := by simp; omega
    have b3 : ((k : Int) % 5 == 3) = false := by simp; omega
    have b4 : ((k : Int) % 5 == 4) = false := by simp; omega
    clear hq hk
    go_enter Try.func29, Try.ntmps29
    go_wp2_with (fail)
    refine (rdInt_any s h.a).mono ?_
    rintro e w1 ⟨rfl, t1⟩
    have hB1 : B ≤ w1.heap.size := Nat.le_trans hB t1.choose_spec.choose_spec.2.size
    obtain ⟨A3, c3, i1, i2, hb⟩ := h.stepA hB t1
    clear t1
    go_wp2_with (fail)
    refine (rIntR_any s i2).mono ?_
    rintro e w2 ⟨rfl, t2⟩
    obtain ⟨A4, c4, A5, c5, h4⟩ := TwoR.stepB i1 i2 h.la h.lb hne hb hB1 t2
    clear t2 i1 i2 hb hB1
    go_wp2_with (fail)
    refine (left_p h4.a).mono ?_
    rintro e w3 ⟨rfl, rfl⟩
    go_wp2_with (fail)
    refine (rleft_p h4.b).mono ?_
    rintro e w3 ⟨rfl, rfl⟩
    go_wp2_with (fail)
    refine (end_p h4.a).mono ?_
    rintro e w3 ⟨rfl, rfl⟩
    go_wp2_with (fail)
    refine (rend_p h4.b).mono ?_
    rintro e w3 ⟨rfl, rfl⟩
    go_wp2_with (fail)
    go_ret
    exact ⟨by simp, A4, c4, A5, c5, by rw [hen.out]; exact h4⟩
  · have hen : nextS s k = (rdT s).2 := by unfold nextS; simp [hq]
    replace hen := Lib.hid hen
    have b0 : ((k : Int) % 5 == 0) = false := by simp; omega
    have b1 : ((k : Int) % 5 == 1) = false := by simp; omega
    have b2 : ((k : Int) % 5 == 2) = true := by simp; omega
    have b3 : ((k : Int) % 5 == 3) = false := by simp; omega
    have b4 : ((k : Int) % 5 == 4) = false := by simp; omega
    clear hq hk
    go_enter Try.func29, Try.ntmps29
    go_wp2_with (fail)
    refine (rdText_any s h.a).mono ?_
    rintro e w1 ⟨rfl, t1⟩
    have hB1 : B ≤ w1.heap.size := Nat.le_trans hB t1.choose_spec.choose_spec.2.size
    obtain ⟨A3, c3, i1, i2, hb⟩ := h.stepA hB t1
    clear t1
    go_wp2_with (fail)
    refine (rTextR_any s i2).mono ?_
    rintro e w2 ⟨rfl, t2⟩
    obtain ⟨A4, c4, A5, c5, h4⟩ := TwoR.stepB i1 i2 h.la h.lb hne hb hB1 t2
    clear t2 i1 i2 hb hB1
    go_wp2_with (fail)
    refine (left_p h4.a).mono ?_
    rintro e w3 ⟨rfl, rfl⟩
    go_wp2_with (fail)
    refine (rleft_p h4.b).mono ?_
    rintro e w3 ⟨rfl, rfl⟩
    go_wp2_with (fail)
    refine (end_p h4.a).mono ?_
    rintro e w3 ⟨rfl, rfl⟩
    go_wp2_with (fail)
    refine (rend_p h4.b).mono ?_
    rintro e w3 ⟨rfl, rfl⟩
    go_wp2_with (fail)
    go_ret
    exact ⟨by simp, A4, c4, A5, c5, by rw [hen.out]; exact h4⟩
  · have hen : nextS s k = (rdB s).2 := by unfold nextS; simp [hq]
    replace hen := Lib.hid hen
    have b0 : ((k : Int) % 5 == 0) = false := by simp; omega
    have b1 : ((k : Int) % 5 == 1) = false := by simp; omega
    have b2 : ((k : Int) % 5 == 2) = false := by simp; omega
    have b3 : ((k : Int) % 5 == 3) = true := by simp; omega
    have b4 : ((k : Int) % 5 == 4) = false := by simp; omega
    clear hq hk
    go_enter Try.func29, Try.ntmps29
    go_wp2_with (fail)
    refine (rdBool_any s h.a).mono ?_
    rintro e w1 ⟨rfl, t1⟩
    have hB1 : B ≤ w1.heap.size := Nat.le_trans hB t1.choose_spec.choose_spec.2.size
    obtain ⟨A3, c3, i1, i2, hb⟩ := h.stepA hB t1
    clear t1
    go_wp2_with (fail)
    refine (rBoolR_any s i2).mono ?_
    rintro e w2 ⟨rfl, t2⟩
    obtain ⟨A4, c4, A5, c5, h4⟩ := TwoR.stepB i1 i2 h.la h.lb hne hb hB1 t2
    clear t2 i1 i2 hb hB1
    go_wp2_with (fail)
    refine (left_p h4.a).mono ?_
    rintro e w3 ⟨rfl, rfl⟩
    go_wp2_with (fail)
    refine (rleft_p h4.b).mono ?_
    rintro e w3 ⟨rfl, rfl⟩
    go_wp2_with (fail)
    refine (end_p h4.a).mono ?_
    rintro e w3 ⟨rfl, rfl⟩
    go_wp2_with (fail)
    refine (rend_p h4.b).mono ?_
    rintro e w3 ⟨rfl, rfl⟩
    go_wp2_with (fail)
    go_ret
    exact ⟨by simp, A4, c4, A5, c5, by rw [hen.out]; exact h4⟩
  · have hen : nextS s k = none := by unfold nextS; simp [hq]
    replace hen := Lib.hid hen
    have b0 : ((k : Int) % 5 == 0) = false := by simp; omega
    have b1 : ((k : Int) % 5 == 1) = false := by simp; omega
    have b2 : ((k : Int) % 5 == 2) = false := by simp; omega
    have b3 : ((k : Int) % 5 == 3) = false := by simp; omega
    have b4 : ((k : Int) % 5 == 4) = true := by simp; omega
    clear hq hk
    go_enter Try.func29, Try.ntmps29
    go_wp2_with (fail)
    refine (fail_p h.a).mono ?_
    rintro e w1 ⟨rfl, t1⟩
    have hB1 : B ≤ w1.heap.size := Nat.le_trans hB t1.choose_spec.choose_spec.2.size
    obtain ⟨A3, c3, i1, i2, hb⟩ := h.stepA hB t1
    clear t1
    go_wp2_with (fail)
    refine (rfail_p i2).mono ?_
    rintro e w2 ⟨rfl, t2⟩
    obtain ⟨A4, c4, A5, c5, h4⟩ := TwoR.stepB i1 i2 h.la h.lb hne hb hB1 t2
    clear t2 i1 i2 hb hB1
    go_wp2_with (fail)
    refine (left_p h4.a).mono ?_
    rintro e w3 ⟨rfl, rfl⟩
    go_wp2_with (fail)
    refine (rleft_p h4.b).mono ?_
    rintro e w3 ⟨rfl, rfl⟩
    go_wp2_with (fail)
    refine (end_p h4.a).mono ?_
    rintro e w3 ⟨rfl, rfl⟩
    go_wp2_with (fail)
    refine (rend_p h4.b).mono ?_
    rintro e w3 ⟨rfl, rfl⟩
    go_wp2_with (fail)
    go_ret
    exact ⟨by simp, A4, c4, A5, c5, by rw [hen.out]; exact h4⟩
end Go.Proofs.Ytcapeefhbkgogaa
