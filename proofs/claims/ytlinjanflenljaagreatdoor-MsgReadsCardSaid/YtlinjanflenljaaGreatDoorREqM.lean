/- The reference's Equal and Copy. -/
import Derived.Test.YtlinjanflenljaaGreatDoorCopyM
import Derived.Test.YtlinjanflenljaaGreatDoorEqM
namespace Go.Proofs.YtlinjanflenljaaGreatDoor
open Go.RowKit
set_option linter.unusedSimpArgs false
set_option linter.unusedVariables false
set_option linter.unusedSectionVars false
set_option maxRecDepth 10000
set_option maxHeartbeats 8000000 in
theorem requal_l (k fr tt ro no sl nu : Int) (v : List UInt8) (l l' : List Ent) (A B : Option Addr) (c d : Nat) (w : World) (h1 : ES w A l.length l) (h2 : ES w B l'.length l') (hn : l.length ≤ 70368744177664) (hm : l'.length ≤ 70368744177664) (hnm : l.length = l'.length) :
    Calls Tryz.prog 15 #[.agg #[.int .i64 k, .int .i64 fr, .int .i64 tt, .int .i64 ro, .int .i64 no, .int .i64 sl, .int .i64 nu, .string (sOf v), .slice A l.length c], .agg #[.int .i64 k, .int .i64 fr, .int .i64 tt, .int .i64 ro, .int .i64 no, .int .i64 sl, .int .i64 nu, .string (sOf v), .slice B l'.length d]] w fun e w' => e = .returned (.bool (decide (Mg.mk k fr tt ro no sl nu v l = Mg.mk k fr tt ro no sl nu v l'))) ∧ Below w.heap.size w w' := by
  have tv : (sOf v).toList = v := ByteArray.toList_mk v
  have hl' : l'.length = l.length := hnm.symm
  obtain ⟨n, hnl⟩ : ∃ n, l.length = n := ⟨_, rfl⟩
  rw [hnl] at h1; rw [hl', hnl] at h2; rw [hl', hnl]
  have hn9 : n ≤ 70368744177664 := by omega
  obtain ⟨U, hU⟩ : ∃ U, U = (w.alloc (.cells #[.int .i64 k, .int .i64 fr, .int .i64 tt, .int .i64 ro, .int .i64 no, .int .i64 sl, .int .i64 nu, .string (sOf v), .slice A n c] 28)).alloc (.cells #[.int .i64 k, .int .i64 fr, .int .i64 tt, .int .i64 ro, .int .i64 no, .int .i64 sl, .int .i64 nu, .string (sOf v), .slice B n d] 28) := ⟨_, rfl⟩
  have kb : Below w.heap.size w U := by rw [hU]; exact ((Below.refl _ w).alloc (Nat.le_refl _) _).alloc (by simp) _
  have hz : U.heap[w.heap.size]? = some (.cells #[.int .i64 k, .int .i64 fr, .int .i64 tt, .int .i64 ro, .int .i64 no, .int .i64 sl, .int .i64 nu, .string (sOf v), .slice A n c] 28 (0, 0)) := by rw [hU]; exact (hpOld _ (by simp)).trans (hpNew w _)
  have hr : U.heap[w.heap.size + 1]? = some (.cells #[.int .i64 k, .int .i64 fr, .int .i64 tt, .int .i64 ro, .int .i64 no, .int .i64 sl, .int .i64 nu, .string (sOf v), .slice B n d] 28 (0, 0)) := by rw [hU]; exact hpNewAt _ (by simp)
  replace kb := Lib.hid kb; replace hz := Lib.hid hz; replace hr := Lib.hid hr; replace h1 := Lib.hid h1; replace h2 := Lib.hid h2; replace hl' := Lib.hid hl'; replace hnl := Lib.hid hnl; clear hnm
  go_enter Tryz.func15, Tryz.ntmps15
  go_wp2_with (fail)
  rw [← hU]
  clear hU
  go_loopw [5] (fun i wr => ∃ j : Nat, j ≤ n ∧ i = .int .i64 j ∧ l.take j = l'.take j ∧ Below U.heap.size U wr) (fun i _ => n - (intOf i).toNat)
  case atStart => exact ⟨0, by omega, rfl, rfl, Below.refl _ _⟩
  case round =>
    revert wr
    intro W1 hrel
    obtain ⟨j, hj, rfl, hpre, hb⟩ := hrel
    have kz := (hb.block _ (blkX hz.out)).trans hz.out
    have kr := (hb.block _ (blkX hr.out)).trans hr.out
    have z7 : W1.cell? ⟨w.heap.size, 8, none⟩ = some (.slice A n c) := blkC kz 8
    have r7 : W1.cell? ⟨w.heap.size + 1, 8, none⟩ = some (.slice B n d) := blkC kr 8
    have kw := kb.out.trans (hb.mono kb.out.size)
    replace kz := Lib.hid kz; replace kr := Lib.hid kr
    by_cases hlt : j < n
    · obtain ⟨b, o, x, rfl, hbl, hx, c0, c1, c2, c3⟩ := ES.at_ (SL.keep h1.out kw) hlt
      obtain ⟨b', o', y, rfl, hbl', hy, d0, d1, d2, d3⟩ := ES.at_ (SL.keep h2.out kw) hlt
      have hq := fun W => neX_run x y W
      have j0 : (0 : Int) ≤ j := by omega
      have j1 : (j : Int) < (n : Int) := by omega
      replace kw := Lib.hid kw
      by_cases hxy : x = y
      · rw [show decide (x = y) = true from decide_eq_true hxy] at hq
        have hnx := Lib.hid (show l.take (j + 1) = l'.take (j + 1) from by rw [List.take_add_one, List.take_add_one, hx, hy, hpre, hxy])
        replace hb := Lib.hid hb
        clear hx hy hpre hxy
        go_wp2_with (fail)
        go_quiet (fail)
        have kq := below_drewN (Below.refl W1.heap.size W1) nq
        have hb2 := Lib.hid (hb.out.trans (kq.mono hb.out.size))
        clear kq
        generalize W1.drewN nq = V at *
        clear c0 c1 c2 c3 d0 d1 d2 d3 z7 r7
        go_wp2_with (fail)
        exact ⟨⟨j + 1, by omega, by go_num, hnx.out, hb2.out⟩, by simp [intOf]; omega⟩
      · rw [show decide (x = y) = false from decide_eq_false hxy] at hq
        have hfin := Lib.hid (show decide ((Mg.mk k fr tt ro no sl nu v l) = Mg.mk k fr tt ro no sl nu v l') = false from decide_eq_false fun e => hxy (by injection e with _ _ _ _ _ _ _ _ e; rw [e, hy] at hx; exact (Option.some.inj hx).symm))
        replace hb := Lib.hid hb
        clear hx hy hpre hxy
        go_wp2_with (fail)
        go_quiet (fail)
        have kq := below_drewN (Below.refl W1.heap.size W1) nq
        have hb2 := Lib.hid (kw.out.trans (kq.mono kw.out.size))
        clear kq
        generalize W1.drewN nq = V at *
        clear c0 c1 c2 c3 d0 d1 d2 d3 z7 r7
        go_wp2_with (fail)
        go_ret
        exact ⟨by rw [hfin.out]; rfl, hb2.out⟩
    · obtain rfl : j = n := by omega
      have hfin := Lib.hid (show decide ((Mg.mk k fr tt ro no sl nu v l) = Mg.mk k fr tt ro no sl nu v l') = true from decide_eq_true (by rw [List.take_of_length_le (by have := hnl.out; omega), List.take_of_length_le (by have := hl'.out; have := hnl.out; omega)] at hpre; rw [hpre]))
      replace kw := Lib.hid kw; replace hb := Lib.hid hb
      clear hpre
      go_wp2_with (fail)
      go_ret
      exact ⟨by rw [hfin.out]; rfl, kw.out⟩
set_option maxHeartbeats 8000000 in
theorem requal_m (m1 m2 : Mg) (A B : Option Addr) (c d : Nat) (w : World) (h1 : ES w A m1.l.length m1.l) (h2 : ES w B m2.l.length m2.l) (hn : m1.l.length ≤ 70368744177664) (hm : m2.l.length ≤ 70368744177664) :
    Calls Tryz.prog 15 #[.agg #[.int .i64 m1.k, .int .i64 m1.fr, .int .i64 m1.tt, .int .i64 m1.ro, .int .i64 m1.no, .int .i64 m1.sl, .int .i64 m1.nu, .string (sOf m1.v), .slice A m1.l.length c], .agg #[.int .i64 m2.k, .int .i64 m2.fr, .int .i64 m2.tt, .int .i64 m2.ro, .int .i64 m2.no, .int .i64 m2.sl, .int .i64 m2.nu, .string (sOf m2.v), .slice B m2.l.length d]] w fun e w' => e = .returned (.bool (decide (m1 = m2))) ∧ Below w.heap.size w w' := by
  obtain ⟨k, fr, tt, ro, no, sl, nu, v, l⟩ := m1
  obtain ⟨k', fr', tt', ro', no', sl', nu', v', l'⟩ := m2
  dsimp only at h1 h2 hn hm ⊢
  have tv : (sOf v).toList = v := ByteArray.toList_mk v
  have tv' : (sOf v').toList = v' := ByteArray.toList_mk v'
  by_cases e_k : k = k'
  rotate_left
  · have hf := Lib.hid (show decide ((Mg.mk k fr tt ro no sl nu v l) = Mg.mk k' fr' tt' ro' no' sl' nu' v' l') = false from decide_eq_false fun e => e_k (by injection e))
    have e_b : (k == k') = false := by simp [e_k]
    clear h1 h2
    go_enter Tryz.func15, Tryz.ntmps15
    go_wp2_with (fail)
    go_ret
    exact ⟨by rw [hf.out]; rfl, by repeat (first | exact Below.refl _ _ | (refine Below.alloc ?_ (by first | simp | (simp; omega)) _))⟩
  subst e_k
  by_cases e_fr : fr = fr'
  rotate_left
  · have hf := Lib.hid (show decide ((Mg.mk k fr tt ro no sl nu v l) = Mg.mk k fr' tt' ro' no' sl' nu' v' l') = false from decide_eq_false fun e => e_fr (by injection e))
    have e_b : (fr == fr') = false := by simp [e_fr]
    clear h1 h2
    go_enter Tryz.func15, Tryz.ntmps15
    go_wp2_with (fail)
    go_ret
    exact ⟨by rw [hf.out]; rfl, by repeat (first | exact Below.refl _ _ | (refine Below.alloc ?_ (by first | simp | (simp; omega)) _))⟩
  subst e_fr
  by_cases e_tt : tt = tt'
  rotate_left
  · have hf := Lib.hid (show decide ((Mg.mk k fr tt ro no sl nu v l) = Mg.mk k fr tt' ro' no' sl' nu' v' l') = false from decide_eq_false fun e => e_tt (by injection e))
    have e_b : (tt == tt') = false := by simp [e_tt]
    clear h1 h2
    go_enter Tryz.func15, Tryz.ntmps15
    go_wp2_with (fail)
    go_ret
    exact ⟨by rw [hf.out]; rfl, by repeat (first | exact Below.refl _ _ | (refine Below.alloc ?_ (by first | simp | (simp; omega)) _))⟩
  subst e_tt
  by_cases e_ro : ro = ro'
  rotate_left
  · have hf := Lib.hid (show decide ((Mg.mk k fr tt ro no sl nu v l) = Mg.mk k fr tt ro' no' sl' nu' v' l') = false from decide_eq_false fun e => e_ro (by injection e))
    have e_b : (ro == ro') = false := by simp [e_ro]
    clear h1 h2
    go_enter Tryz.func15, Tryz.ntmps15
    go_wp2_with (fail)
    go_ret
    exact ⟨by rw [hf.out]; rfl, by repeat (first | exact Below.refl _ _ | (refine Below.alloc ?_ (by first | simp | (simp; omega)) _))⟩
  subst e_ro
  by_cases e_no : no = no'
  rotate_left
  · have hf := Lib.hid (show decide ((Mg.mk k fr tt ro no sl nu v l) = Mg.mk k fr tt ro no' sl' nu' v' l') = false from decide_eq_false fun e => e_no (by injection e))
    have e_b : (no == no') = false := by simp [e_no]
    clear h1 h2
    go_enter Tryz.func15, Tryz.ntmps15
    go_wp2_with (fail)
    go_ret
    exact ⟨by rw [hf.out]; rfl, by repeat (first | exact Below.refl _ _ | (refine Below.alloc ?_ (by first | simp | (simp; omega)) _))⟩
  subst e_no
  by_cases e_sl : sl = sl'
  rotate_left
  · have hf := Lib.hid (show decide ((Mg.mk k fr tt ro no sl nu v l) = Mg.mk k fr tt ro no sl' nu' v' l') = false from decide_eq_false fun e => e_sl (by injection e))
    have e_b : (sl == sl') = false := by simp [e_sl]
    clear h1 h2
    go_enter Tryz.func15, Tryz.ntmps15
    go_wp2_with (fail)
    go_ret
    exact ⟨by rw [hf.out]; rfl, by repeat (first | exact Below.refl _ _ | (refine Below.alloc ?_ (by first | simp | (simp; omega)) _))⟩
  subst e_sl
  by_cases e_nu : nu = nu'
  rotate_left
  · have hf := Lib.hid (show decide ((Mg.mk k fr tt ro no sl nu v l) = Mg.mk k fr tt ro no sl nu' v' l') = false from decide_eq_false fun e => e_nu (by injection e))
    have e_b : (nu == nu') = false := by simp [e_nu]
    clear h1 h2
    go_enter Tryz.func15, Tryz.ntmps15
    go_wp2_with (fail)
    go_ret
    exact ⟨by rw [hf.out]; rfl, by repeat (first | exact Below.refl _ _ | (refine Below.alloc ?_ (by first | simp | (simp; omega)) _))⟩
  subst e_nu
  by_cases e_v : v = v'
  rotate_left
  · have hf := Lib.hid (show decide ((Mg.mk k fr tt ro no sl nu v l) = Mg.mk k fr tt ro no sl nu v' l') = false from decide_eq_false fun e => e_v (by injection e))
    clear h1 h2
    go_enter Tryz.func15, Tryz.ntmps15
    go_wp2_with (fail)
    go_ret
    exact ⟨by rw [hf.out]; rfl, by repeat (first | exact Below.refl _ _ | (refine Below.alloc ?_ (by first | simp | (simp; omega)) _))⟩
  subst e_v
  by_cases hnm : l.length = l'.length
  rotate_left
  · have hf := Lib.hid (show decide ((Mg.mk k fr tt ro no sl nu v l) = Mg.mk k fr tt ro no sl nu v l') = false from decide_eq_false fun e => hnm (by injection e with _ _ _ _ _ _ _ _ e; rw [e]))
    have hz : ((l.length : Int) == (l'.length : Int)) = false := beq_false_of_ne (by omega)
    clear h1 h2
    go_enter Tryz.func15, Tryz.ntmps15
    go_wp2_with (fail)
    go_ret
    exact ⟨by rw [hf.out]; rfl, by repeat (first | exact Below.refl _ _ | (refine Below.alloc ?_ (by first | simp | (simp; omega)) _))⟩
  exact requal_l k fr tt ro no sl nu v l l' A B c d w h1 h2 hn hm hnm
attribute [local go_sem ↓] hideAppend
set_option maxHeartbeats 8000000 in
theorem rcopy_any (m : Mg) (A : Option Addr) (c : Nat) (w : World) (hI : IsM w m A c) : Calls Tryz.prog 21 #[.agg #[.int .i64 m.k, .int .i64 m.fr, .int .i64 m.tt, .int .i64 m.ro, .int .i64 m.no, .int .i64 m.sl, .int .i64 m.nu, .string (sOf m.v), .slice A m.l.length c]] w fun e w' => ∃ A' c', e = .returned (.agg #[.int .i64 m.k, .int .i64 m.fr, .int .i64 m.tt, .int .i64 m.ro, .int .i64 m.no, .int .i64 m.sl, .int .i64 m.nu, .string (sOf m.v), .slice A' m.l.length c']) ∧ w'.ownsRow w.heap.size 45 4 (.slice A' m.l.length c') m.l.length (flat encEnt m.l) ∧ Below w.heap.size w w' := by
  obtain ⟨U, hU⟩ : ∃ U, U = ((w.alloc (.cells #[.int .i64 m.k, .int .i64 m.fr, .int .i64 m.tt, .int .i64 m.ro, .int .i64 m.no, .int .i64 m.sl, .int .i64 m.nu, .string (sOf m.v), .slice A m.l.length c] 28)).alloc (.cells #[.int .i64 0, .int .i64 0, .int .i64 0, .int .i64 0, .int .i64 0, .int .i64 0, .int .i64 0, .string ⟨#[]⟩, .slice none 0 0] 28)) := ⟨_, rfl⟩
  have kb : Below w.heap.size w U := by rw [hU]; exact ((Below.refl _ w).alloc (Nat.le_refl _) _).alloc (by simp) _
  have hz : U.heap[w.heap.size]? = some (.cells #[.int .i64 m.k, .int .i64 m.fr, .int .i64 m.tt, .int .i64 m.ro, .int .i64 m.no, .int .i64 m.sl, .int .i64 m.nu, .string (sOf m.v), .slice A m.l.length c] 28 (0, 0)) := by rw [hU]; exact (hpOld _ (by simp)).trans (hpNew w _)
  have hr : U.heap[w.heap.size + 1]? = some (.cells #[.int .i64 0, .int .i64 0, .int .i64 0, .int .i64 0, .int .i64 0, .int .i64 0, .int .i64 0, .string ⟨#[]⟩, .slice none 0 0] 28 (0, 0)) := by rw [hU]; exact hpNewAt _ (by simp)
  have hUs : U.heap.size = w.heap.size + 2 := by rw [hU]; simp
  have kr := (Below.refl U.heap.size U).alloc (Nat.le_refl _) (.cells #[] 45)
  obtain ⟨A1, c1, w1, hrun, hcap, ho, hgr, hat⟩ := append_sl elemEnt encEnt_len encEnt_one (ty := 26) (d := c) (row0E U) (by simp) (SL.keep (SL.keep hI.es kb) kr) (by have := hI.n; omega) (by have := hI.n; omega)
  simp only [Nat.zero_add, List.nil_append] at hrun ho
  have b1 : Below U.heap.size U w1 := kr.grown hgr kr.size (fun k e => Nat.le_of_eq (Option.some.inj e))
  have hz1 := (b1.block _ (blkX hz)).trans hz
  have hr1 := (b1.block _ (blkX hr)).trans hr
  have kb1 := Lib.hid (kb.trans (b1.mono kb.size))
  have ho' := ho.mono (base' := w.heap.size) kb.size
  have hne0 := own_ty ho hz1 (show 28 ≠ 45 from by decide)
  have hne1 := own_ty ho hr1 (show 28 ≠ 45 from by decide)
  have cz : U.cell? ⟨w.heap.size, 8, none⟩ = some (.slice A m.l.length c) := blkC hz 8
  have z0 : w1.cell? ⟨w.heap.size, 0, none⟩ = some (.int .i64 m.k) := blkC hz1 0
  have z1 : w1.cell? ⟨w.heap.size, 1, none⟩ = some (.int .i64 m.fr) := blkC hz1 1
  have z2 : w1.cell? ⟨w.heap.size, 2, none⟩ = some (.int .i64 m.tt) := blkC hz1 2
  have z3 : w1.cell? ⟨w.heap.size, 3, none⟩ = some (.int .i64 m.ro) := blkC hz1 3
  have z4 : w1.cell? ⟨w.heap.size, 4, none⟩ = some (.int .i64 m.no) := blkC hz1 4
  have z5 : w1.cell? ⟨w.heap.size, 5, none⟩ = some (.int .i64 m.sl) := blkC hz1 5
  have z6 : w1.cell? ⟨w.heap.size, 6, none⟩ = some (.int .i64 m.nu) := blkC hz1 6
  have z7 : w1.cell? ⟨w.heap.size, 7, none⟩ = some (.string (sOf m.v)) := blkC hz1 7
  have z8 : w1.cell? ⟨w.heap.size, 8, none⟩ = some (.slice A m.l.length c) := blkC hz1 8
  have r0 : w1.cell? ⟨w.heap.size + 1, 0, none⟩ = some (.int .i64 0) := blkC hr1 0
  have r1 : w1.cell? ⟨w.heap.size + 1, 1, none⟩ = some (.int .i64 0) := blkC hr1 1
  have r2 : w1.cell? ⟨w.heap.size + 1, 2, none⟩ = some (.int .i64 0) := blkC hr1 2
  have r3 : w1.cell? ⟨w.heap.size + 1, 3, none⟩ = some (.int .i64 0) := blkC hr1 3
  have r4 : w1.cell? ⟨w.heap.size + 1, 4, none⟩ = some (.int .i64 0) := blkC hr1 4
  have r5 : w1.cell? ⟨w.heap.size + 1, 5, none⟩ = some (.int .i64 0) := blkC hr1 5
  have r6 : w1.cell? ⟨w.heap.size + 1, 6, none⟩ = some (.int .i64 0) := blkC hr1 6
  have r7 : w1.cell? ⟨w.heap.size + 1, 7, none⟩ = some (.string ⟨#[]⟩) := blkC hr1 7
  have r8 : w1.cell? ⟨w.heap.size + 1, 8, none⟩ = some (.slice none 0 0) := blkC hr1 8
  have fz := blkF hz1; have fr := blkF hr1
  have lz := blkX hz1; have lr := blkX hr1
  have lu := blkX hz
  rw [hUs, hU] at hrun
  replace ho' := Lib.hid ho'; replace hz1 := Lib.hid hz1; replace hr1 := Lib.hid hr1; replace hne0 := Lib.hid hne0; replace hne1 := Lib.hid hne1; replace hz := Lib.hid hz; replace hr := Lib.hid hr; replace hI := Lib.hid hI; replace kb := Lib.hid kb; replace b1 := Lib.hid b1; replace hgr := Lib.hid hgr; replace hat := Lib.hid hat; replace ho := Lib.hid ho; replace kr := Lib.hid kr
  clear hU cz lu
  go_enter Tryz.func21, Tryz.ntmps21
  go_wp2_with (fail)
  refine bodyPost_ret (by simp [results, Tryz.results21, go_sem, *]; try with_reducible rfl) rfl ?_
  refine ⟨A1, c1, rfl, ?_, ?_⟩
  · iterate 9 (refine own_set ?_ hne1.out _ _)
    refine own_set ?_ hne0.out _ _
    exact ho'.out
  · iterate 9 (refine Below.setCell ?_ (by simp) _)
    refine Below.setCell ?_ (by simp) _
    exact kb1.out
end Go.Proofs.YtlinjanflenljaaGreatDoor
