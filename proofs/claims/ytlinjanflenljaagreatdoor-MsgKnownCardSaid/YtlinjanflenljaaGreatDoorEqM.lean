/- Equal and Copy. -/
import Derived.Test.YtlinjanflenljaaGreatDoorWB
import Derived.Laws.StructEq
import Derived.Deep.QuietTactic
import Derived.BigQuiet
namespace Go.Proofs.YtlinjanflenljaaGreatDoor
open Go.RowKit
set_option linter.unusedSimpArgs false
set_option linter.unusedVariables false
set_option linter.unusedSectionVars false
set_option maxRecDepth 10000
theorem sOf_inj {a b : List UInt8} : sOf a = sOf b ↔ a = b := ⟨fun h => by have := congrArg (fun s : ByteArray => s.data.toList) h; simpa [sOf] using this, fun h => by rw [h]⟩
theorem eqX_run (x y : Ent) (w : World) : (Op.equalIn 10000 45 (.agg #[.int .i64 x.sl, .int .i64 x.ro, .int .i64 x.no, .string (sOf x.v)]) (.agg #[.int .i64 y.sl, .int .i64 y.ro, .int .i64 y.no, .string (sOf y.v)])).run Tryz.prog w = .ok (decide (x = y)) w := by
  have u3 := Tryz.underlying3
  have a3 := Tryz.isAgg3
  have z3 := Tryz.sizeOf3
  have u9 := Tryz.underlying9
  have a9 := Tryz.isAgg9
  have z9 := Tryz.sizeOf9
  have hS : Tryz.prog.underlying 45 = some (.struct (Tryz.prog.fieldsOf 45)) := by kernel_rfl
  have hp : Tryz.prog.stoodInHeld 45 = false := by kernel_rfl
  have hS2 : Tryz.prog.underlying 25 = some (.struct (Tryz.prog.fieldsOf 25)) := by kernel_rfl
  have hp2 : Tryz.prog.stoodInHeld 25 = false := by kernel_rfl
  obtain ⟨a, b, c, s⟩ := x
  obtain ⟨d, e, f, t⟩ := y
  have hinj := @sOf_inj s t
  rw [show (10000 : Nat) = 9999 + 1 from rfl, run_equalIn_agg w 9999 45 _ _ hS hp]
  simp only [Program.fieldsOf, Tryz.underlying45]
  have hbal : ∀ W, (Op.equalIn 9999 25 (.agg #[.int .i64 b, .int .i64 c]) (.agg #[.int .i64 e, .int .i64 f])).run Tryz.prog W = .ok (decide (b = e ∧ c = f)) W := by
    intro W
    rw [show (9999 : Nat) = 9998 + 1 from rfl, run_equalIn_agg W 9998 25 _ _ hS2 hp2]
    simp only [Program.fieldsOf, Tryz.underlying25]
    go_simp
    by_cases h1 : b = e <;> by_cases h2 : c = f <;> simp [h1, h2]
  go_simp
  rw [show (sOf s).toList = s from ByteArray.toList_mk s, show (sOf t).toList = t from ByteArray.toList_mk t]
  by_cases h1 : a = d <;> by_cases h2 : b = e <;> by_cases h3 : c = f <;> by_cases h4 : s = t <;> simp [h1, h2, h3, h4]
theorem neX_run (x y : Ent) (w : World) : (binOp .neq 45 (.agg #[.int .i64 x.sl, .int .i64 x.ro, .int .i64 x.no, .string (sOf x.v)]) (.agg #[.int .i64 y.sl, .int .i64 y.ro, .int .i64 y.no, .string (sOf y.v)])).run Tryz.prog w = .ok (.bool (!decide (x = y))) w := by
  rw [run_neq_struct, eqX_run]; rfl

set_option maxHeartbeats 8000000 in
theorem eql_any (A B : Option Addr) (n c k d : Nat) (l r : List Ent) (w : World) (h1 : ES w A n l) (h2 : ES w B k r) (hn : n ≤ 70368744177664) (hm : k ≤ 70368744177664) :
    Calls Tryz.prog 44 #[.slice A n c, .slice B k d] w fun e w' => e = .returned (.bool (decide (l = r))) ∧ Below w.heap.size w w' := by
  have hl1 := h1.1
  have hl2 := h2.1
  by_cases hnm : n = k
  · subst hnm
    replace h1 := Lib.hid h1; replace h2 := Lib.hid h2; replace hl1 := Lib.hid hl1; replace hl2 := Lib.hid hl2
    go_enter Tryz.func44, Tryz.ntmps44
    go_wp2_with (fail)
    go_loopw [13] (fun i wr => ∃ j : Nat, j ≤ n ∧ i = .int .i64 j ∧ l.take j = r.take j ∧ Below w.heap.size w wr) (fun i _ => n - (intOf i).toNat)
    case atStart => exact ⟨0, by omega, rfl, rfl, Below.refl _ _⟩
    case round =>
      revert wr
      intro W1 hrel
      obtain ⟨j, hj, rfl, hpre, hb⟩ := hrel
      by_cases hlt : j < n
      · obtain ⟨b, o, x, rfl, hbl, hx, c0, c1, c2, c3⟩ := ES.at_ (SL.keep h1.out hb) hlt
        obtain ⟨b', o', y, rfl, hbl', hy, d0, d1, d2, d3⟩ := ES.at_ (SL.keep h2.out hb) hlt
        have hq := fun W => neX_run x y W
        have j0 : (0 : Int) ≤ j := by omega
        have j1 : (j : Int) < (n : Int) := by omega
        by_cases hxy : x = y
        · rw [show decide (x = y) = true from decide_eq_true hxy] at hq
          have hnx := Lib.hid (show l.take (j + 1) = r.take (j + 1) from by rw [List.take_add_one, List.take_add_one, hx, hy, hpre, hxy])
          replace hb := Lib.hid hb
          clear hx hy hpre hxy
          go_wp2_with (fail)
          go_quiet (fail)
          have kq := below_drewN (Below.refl W1.heap.size W1) nq
          have hb2 := Lib.hid (hb.out.trans (kq.mono hb.out.size))
          clear kq
          generalize W1.drewN nq = V at *
          clear c0 c1 c2 c3 d0 d1 d2 d3
          go_wp2_with (fail)
          exact ⟨⟨j + 1, by omega, by go_num, hnx.out, hb2.out⟩, by simp [intOf]; omega⟩
        · rw [show decide (x = y) = false from decide_eq_false hxy] at hq
          have hfin := Lib.hid (show decide (l = r) = false from decide_eq_false fun e => hxy (by rw [e, hy] at hx; exact (Option.some.inj hx).symm))
          replace hb := Lib.hid hb
          clear hx hy hpre hxy
          go_wp2_with (fail)
          go_quiet (fail)
          have kq := below_drewN (Below.refl W1.heap.size W1) nq
          have hb2 := Lib.hid (hb.out.trans (kq.mono hb.out.size))
          clear kq
          generalize W1.drewN nq = V at *
          clear c0 c1 c2 c3 d0 d1 d2 d3
          go_wp2_with (fail)
          go_ret
          exact ⟨by rw [hfin.out]; rfl, hb2.out⟩
      · obtain rfl : j = n := by omega
        have hfin := Lib.hid (show decide (l = r) = true from decide_eq_true (by rw [List.take_of_length_le (by have := hl1.out; omega), List.take_of_length_le (by have := hl2.out; omega)] at hpre; exact hpre))
        replace hb := Lib.hid hb
        clear hpre
        go_wp2_with (fail)
        go_ret
        exact ⟨by rw [hfin.out]; rfl, hb.out⟩
  · have hne : ¬ l = r := fun e => hnm (by rw [← hl1, ← hl2, e])
    have hz : ((n : Int) == (k : Int)) = false := beq_false_of_ne (by omega)
    have hd : decide (l = r) = false := by simp [hne]
    rw [hd]
    clear h1 h2 hne hd
    go_enter Tryz.func44, Tryz.ntmps44
    go_wp2_with (fail)
    go_ret
    exact ⟨rfl, Below.refl _ _⟩
set_option maxHeartbeats 8000000 in
theorem equal_m (m1 m2 : Mg) (A B : Option Addr) (c d : Nat) (w : World) (h1 : ES w A m1.l.length m1.l) (h2 : ES w B m2.l.length m2.l) (hn : m1.l.length ≤ 70368744177664) (hm : m2.l.length ≤ 70368744177664) :
    Calls Tryz.prog 19 #[.agg #[.int .i64 m1.k, .int .i64 m1.fr, .int .i64 m1.tt, .int .i64 m1.ro, .int .i64 m1.no, .int .i64 m1.sl, .int .i64 m1.nu, .string (sOf m1.v), .slice A m1.l.length c], .agg #[.int .i64 m2.k, .int .i64 m2.fr, .int .i64 m2.tt, .int .i64 m2.ro, .int .i64 m2.no, .int .i64 m2.sl, .int .i64 m2.nu, .string (sOf m2.v), .slice B m2.l.length d]] w fun e w' => e = .returned (.bool (decide (m1 = m2))) ∧ Below w.heap.size w w' := by
  obtain ⟨k, fr, tt, ro, no, sl, nu, v, l⟩ := m1
  obtain ⟨k', fr', tt', ro', no', sl', nu', v', l'⟩ := m2
  dsimp only at h1 h2 hn hm ⊢
  have tv : (sOf v).toList = v := ByteArray.toList_mk v
  have tv' : (sOf v').toList = v' := ByteArray.toList_mk v'
  by_cases e_k : k = k'
  rotate_left
  · have hf := Lib.hid (show decide ((Mg.mk k fr tt ro no sl nu v l) = Mg.mk k' fr' tt' ro' no' sl' nu' v' l') = false from decide_eq_false fun e => e_k (by injection e))
    have e_b : (k == k') = false := by simp [e_k]
    clear h1 h2
    go_enter Tryz.func19, Tryz.ntmps19
    go_wp2_with (fail)
    go_ret
    exact ⟨by rw [hf.out]; rfl, by repeat (first | exact Below.refl _ _ | (refine Below.alloc ?_ (by first | simp | (simp; omega)) _))⟩
  subst e_k
  by_cases e_fr : fr = fr'
  rotate_left
  · have hf := Lib.hid (show decide ((Mg.mk k fr tt ro no sl nu v l) = Mg.mk k fr' tt' ro' no' sl' nu' v' l') = false from decide_eq_false fun e => e_fr (by injection e))
    have e_b : (fr == fr') = false := by simp [e_fr]
    clear h1 h2
    go_enter Tryz.func19, Tryz.ntmps19
    go_wp2_with (fail)
    go_ret
    exact ⟨by rw [hf.out]; rfl, by repeat (first | exact Below.refl _ _ | (refine Below.alloc ?_ (by first | simp | (simp; omega)) _))⟩
  subst e_fr
  by_cases e_tt : tt = tt'
  rotate_left
  · have hf := Lib.hid (show decide ((Mg.mk k fr tt ro no sl nu v l) = Mg.mk k fr tt' ro' no' sl' nu' v' l') = false from decide_eq_false fun e => e_tt (by injection e))
    have e_b : (tt == tt') = false := by simp [e_tt]
    clear h1 h2
    go_enter Tryz.func19, Tryz.ntmps19
    go_wp2_with (fail)
    go_ret
    exact ⟨by rw [hf.out]; rfl, by repeat (first | exact Below.refl _ _ | (refine Below.alloc ?_ (by first | simp | (simp; omega)) _))⟩
  subst e_tt
  by_cases e_ro : ro = ro'
  rotate_left
  · have hf := Lib.hid (show decide ((Mg.mk k fr tt ro no sl nu v l) = Mg.mk k fr tt ro' no' sl' nu' v' l') = false from decide_eq_false fun e => e_ro (by injection e))
    have e_b : (ro == ro') = false := by simp [e_ro]
    clear h1 h2
    go_enter Tryz.func19, Tryz.ntmps19
    go_wp2_with (fail)
    go_ret
    exact ⟨by rw [hf.out]; rfl, by repeat (first | exact Below.refl _ _ | (refine Below.alloc ?_ (by first | simp | (simp; omega)) _))⟩
  subst e_ro
  by_cases e_no : no = no'
  rotate_left
  · have hf := Lib.hid (show decide ((Mg.mk k fr tt ro no sl nu v l) = Mg.mk k fr tt ro no' sl' nu' v' l') = false from decide_eq_false fun e => e_no (by injection e))
    have e_b : (no == no') = false := by simp [e_no]
    clear h1 h2
    go_enter Tryz.func19, Tryz.ntmps19
    go_wp2_with (fail)
    go_ret
    exact ⟨by rw [hf.out]; rfl, by repeat (first | exact Below.refl _ _ | (refine Below.alloc ?_ (by first | simp | (simp; omega)) _))⟩
  subst e_no
  by_cases e_sl : sl = sl'
  rotate_left
  · have hf := Lib.hid (show decide ((Mg.mk k fr tt ro no sl nu v l) = Mg.mk k fr tt ro no sl' nu' v' l') = false from decide_eq_false fun e => e_sl (by injection e))
    have e_b : (sl == sl') = false := by simp [e_sl]
    clear h1 h2
    go_enter Tryz.func19, Tryz.ntmps19
    go_wp2_with (fail)
    go_ret
    exact ⟨by rw [hf.out]; rfl, by repeat (first | exact Below.refl _ _ | (refine Below.alloc ?_ (by first | simp | (simp; omega)) _))⟩
  subst e_sl
  by_cases e_nu : nu = nu'
  rotate_left
  · have hf := Lib.hid (show decide ((Mg.mk k fr tt ro no sl nu v l) = Mg.mk k fr tt ro no sl nu' v' l') = false from decide_eq_false fun e => e_nu (by injection e))
    have e_b : (nu == nu') = false := by simp [e_nu]
    clear h1 h2
    go_enter Tryz.func19, Tryz.ntmps19
    go_wp2_with (fail)
    go_ret
    exact ⟨by rw [hf.out]; rfl, by repeat (first | exact Below.refl _ _ | (refine Below.alloc ?_ (by first | simp | (simp; omega)) _))⟩
  subst e_nu
  by_cases e_v : v = v'
  rotate_left
  · have hf := Lib.hid (show decide ((Mg.mk k fr tt ro no sl nu v l) = Mg.mk k fr tt ro no sl nu v' l') = false from decide_eq_false fun e => e_v (by injection e))
    clear h1 h2
    go_enter Tryz.func19, Tryz.ntmps19
    go_wp2_with (fail)
    go_ret
    exact ⟨by rw [hf.out]; rfl, by repeat (first | exact Below.refl _ _ | (refine Below.alloc ?_ (by first | simp | (simp; omega)) _))⟩
  subst e_v
  have hf := Lib.hid (show decide ((Mg.mk k fr tt ro no sl nu v l) = Mg.mk k fr tt ro no sl nu v l') = decide (l = l') from by
    rw [Bool.eq_iff_iff, decide_eq_true_eq, decide_eq_true_eq]
    exact ⟨fun e => by injection e, fun e => by rw [e]⟩)
  have kb : Below w.heap.size w ((w.alloc (.cells #[.int .i64 k, .int .i64 fr, .int .i64 tt, .int .i64 ro, .int .i64 no, .int .i64 sl, .int .i64 nu, .string (sOf v), .slice A l.length c] 28)).alloc (.cells #[.int .i64 k, .int .i64 fr, .int .i64 tt, .int .i64 ro, .int .i64 no, .int .i64 sl, .int .i64 nu, .string (sOf v), .slice B l'.length d] 28)) := ((Below.refl _ w).alloc (Nat.le_refl _) _).alloc (by simp) _
  have hc := eql_any A B l.length c l'.length d l l' _ (SL.keep h1 kb) (SL.keep h2 kb) hn hm
  replace kb := Lib.hid kb
  go_enter Tryz.func19, Tryz.ntmps19
  go_wp2_with (fail)
  refine hc.mono ?_
  rintro e w2 ⟨rfl, b2⟩
  have hb := Lib.hid (kb.out.trans (b2.mono kb.out.size))
  clear b2 h1 h2
  generalize hdd : decide (l = l') = dd at *
  go_wp2_with (fail)
  go_ret
  exact ⟨by rw [hf.out]; rfl, hb.out⟩
def pxB (k : Int) : Bool := decide (1 ≤ k ∧ k ≤ 9)
set_option maxHeartbeats 2000000 in
theorem paxos_any (k : Int) (w : World) : Calls Tryz.prog 25 #[.int .i64 k] w fun e w' => e = .returned (.bool (pxB k)) ∧ w = w' := by
  by_cases h1 : 1 ≤ k
  · by_cases h2 : k ≤ 9
    · have hf := Lib.hid (show pxB k = true from decide_eq_true ⟨h1, h2⟩)
      go_enter Tryz.func25, Tryz.ntmps25
      go_wp2_with (fail)
      go_ret
      exact ⟨by rw [hf.out]; rfl, rfl⟩
    · have hf := Lib.hid (show pxB k = false from decide_eq_false fun q => h2 q.2)
      go_enter Tryz.func25, Tryz.ntmps25
      go_wp2_with (fail)
      go_ret
      exact ⟨by rw [hf.out]; rfl, rfl⟩
  · have hf := Lib.hid (show pxB k = false from decide_eq_false fun q => h1 q.1)
    go_enter Tryz.func25, Tryz.ntmps25
    go_wp2_with (fail)
    go_ret
    exact ⟨by rw [hf.out]; rfl, rfl⟩
end Go.Proofs.YtlinjanflenljaaGreatDoor
