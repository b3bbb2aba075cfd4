/- Commands that are compared with one of a kind alone. -/
import Derived.Test.YtkpfkabdodnooaaGreatDoorWPlain
namespace Go.Proofs.YtkpfkabdodnooaaGreatDoor
open Go.RowKit Go.Shelf
set_option linter.unusedSimpArgs false
set_option linter.unusedVariables false
set_option linter.unusedSectionVars false
set_option maxRecDepth 10000
theorem eqlStep (A : Option Addr) (n : Nat) (c : Nat) (w : World) : Calls Tryz.prog 236 #[.slice A n c, .slice none 0 0] w fun e w' => e = .returned (.bool (decide (n = 0))) ∧ w' = w := by
  by_cases hn : n = 0
  · subst hn
    go_enter Tryz.func236, Tryz.ntmps236
    go_wp2_with (fail)
    go_loopw [13] (fun i wr => i = .int .i64 0 ∧ wr = w) (fun _ _ => 0)
    case atStart => exact ⟨rfl, rfl⟩
    case round =>
      revert wr
      rintro W1 ⟨rfl, rfl⟩
      go_wp2_with (fail)
      go_ret
      exact ⟨rfl, rfl⟩
  · rw [decide_eq_false hn]
    have h1 : ((n : Int) != 0) = true := by simpa using hn
    have h2 : ¬ (n : Int) = 0 := by omega
    have h3 : ((n : Int) == 0) = false := by simpa using hn
    go_enter Tryz.func236, Tryz.ntmps236
    go_wp2_with (fail)
    go_ret
    exact ⟨rfl, rfl⟩
theorem eqlDef (dn : ByteArray) (dr dd : Int) (dA : Option Addr) (dl dc : Nat) (w : World) : Calls Tryz.prog 141 #[.agg #[.string dn, .int .i64 dr, .int .i64 dd, .slice dA dl dc], .agg #[.string ⟨#[]⟩, .int .i64 0, .int .i64 0, .slice none 0 0]] w fun e w' => e = .returned (.bool (decide (dn = noText) && decide (dr = 0) && decide (dd = 0) && decide (dl = 0))) ∧ Below w.heap.size w w' := by
  by_cases h0 : dn = noText
  rotate_left
  · have q0 : dn.toList.isEmpty = false ∧ ¬ dn.toList = [] := by exact ⟨by rw [tl_emp, decide_eq_false h0], fun q => h0 (tl_nil.1 q)⟩
    obtain ⟨q0, q0'⟩ := q0
    rw [decide_eq_false h0]
    simp only [Bool.and_false, Bool.false_and]
    go_enter Tryz.func141, Tryz.ntmps141
    go_wp2_with (fail)
    go_ret
    exact ⟨rfl, by repeat (first | exact Below.refl _ _ | refine Below.setCell ?_ (by simp <;> omega) _ | refine Below.alloc ?_ (by simp <;> omega) _)⟩
  obtain rfl : dn = ⟨#[]⟩ := h0
  by_cases h1 : dr = 0
  rotate_left
  · have q1 : (dr == 0) = false := by simpa using h1
    skip
    rw [decide_eq_false h1]
    simp only [Bool.and_false, Bool.false_and]
    go_enter Tryz.func141, Tryz.ntmps141
    go_wp2_with (fail)
    go_ret
    exact ⟨rfl, by repeat (first | exact Below.refl _ _ | refine Below.setCell ?_ (by simp <;> omega) _ | refine Below.alloc ?_ (by simp <;> omega) _)⟩
  subst h1
  by_cases h2 : dd = 0
  rotate_left
  · have q2 : (dd == 0) = false := by simpa using h2
    skip
    rw [decide_eq_false h2]
    simp only [Bool.and_false, Bool.false_and]
    go_enter Tryz.func141, Tryz.ntmps141
    go_wp2_with (fail)
    go_ret
    exact ⟨rfl, by repeat (first | exact Below.refl _ _ | refine Below.setCell ?_ (by simp <;> omega) _ | refine Below.alloc ?_ (by simp <;> omega) _)⟩
  subst h2
  have hs := eqlStep dA dl dc
  rw [show (decide ((⟨#[]⟩ : ByteArray) = noText) && decide ((0 : Int) = 0) && decide ((0 : Int) = 0) && decide (dl = 0)) = decide (dl = 0) from rfl]
  generalize decide (dl = 0) = r at *
  go_enter Tryz.func141, Tryz.ntmps141
  go_wp2_with (fail)
  refine (hs _).mono ?_
  rintro e w2 ⟨rfl, rfl⟩
  go_wp2_with (fail)
  go_ret
  exact ⟨rfl, by repeat (first | exact Below.refl _ _ | refine Below.setCell ?_ (by simp <;> omega) _ | refine Below.alloc ?_ (by simp <;> omega) _)⟩
def zeroCd (k : Int) : Cd := ⟨k, 0, 0, (0, 0, 0), noText, 0, 0, (noText, noText), 0, noText, 0, 0, none, 0, 0, (0, 0, 0), 0, false, 0, 0, noText⟩
def onlyK (c : Cd) (k : Int) : Bool := (decide (c.dn = noText) && decide (c.dr = 0) && decide (c.dd = 0) && decide (c.dl' = 0)) && decide (c.e = (0, 0, 0)) && decide (c.r = (noText, noText)) && (decide (c.ie = (0, 0, 0)) && decide (c.im = 0) && !c.ii && decide (c.ig = 0)) && decide (c.k = k) && decide (c.call = 0) && decide (c.saga = 0) && decide (c.key = noText) && decide (c.dl = 0) && decide (c.mv = 0) && decide (c.gr = 0) && decide (c.res = 0) && decide (c.dat = noText)

set_option maxHeartbeats 8000000 in
theorem eqlCmd (c : Cd) (k : Int) (v : World) : Calls Tryz.prog 82 #[.agg (cdV c), .agg (cdV (zeroCd k))] v fun e w' => e = .returned (.bool (onlyK c k)) ∧ Below v.heap.size v w' := by
  obtain ⟨W1, hW1⟩ : ∃ W1, W1 = (v.alloc (.cells (cdV c) 33)).alloc (.cells (cdV (zeroCd k)) 33) := ⟨_, rfl⟩
  have k1 : Below v.heap.size v W1 := by rw [hW1]; exact ((Below.refl _ v).alloc (Nat.le_refl _) _).alloc (by simp) _
  have b0 : W1.heap[v.heap.size]? = some (.cells (cdV c) 33 (0, 0)) := by rw [hW1]; exact (hpOld _ (by simp)).trans (hpNew _ _)
  have b1 : W1.heap[v.heap.size + 1]? = some (.cells (cdV (zeroCd k)) 33 (0, 0)) := by rw [hW1]; exact hpNewAt _ (by simp)
  have z0 : W1.cell? ⟨v.heap.size, 0, none⟩ = some (.int .i64 c.k) := blkC b0 0
  have z1 : W1.cell? ⟨v.heap.size, 1, none⟩ = some (.int .i64 c.call) := blkC b0 1
  have z2 : W1.cell? ⟨v.heap.size, 2, none⟩ = some (.int .i64 c.saga) := blkC b0 2
  have z3 : W1.cell? ⟨v.heap.size, 3, none⟩ = some (.int .i64 c.e.1) := blkC b0 3
  have z4 : W1.cell? ⟨v.heap.size, 4, none⟩ = some (.int .i64 c.e.2.1) := blkC b0 4
  have z5 : W1.cell? ⟨v.heap.size, 5, none⟩ = some (.int .i64 c.e.2.2) := blkC b0 5
  have z6 : W1.cell? ⟨v.heap.size, 6, none⟩ = some (.string c.key) := blkC b0 6
  have z7 : W1.cell? ⟨v.heap.size, 7, none⟩ = some (.int .i64 c.dl) := blkC b0 7
  have z8 : W1.cell? ⟨v.heap.size, 8, none⟩ = some (.int .i64 c.mv) := blkC b0 8
  have z9 : W1.cell? ⟨v.heap.size, 9, none⟩ = some (.string c.r.1) := blkC b0 9
  have z10 : W1.cell? ⟨v.heap.size, 10, none⟩ = some (.string c.r.2) := blkC b0 10
  have z11 : W1.cell? ⟨v.heap.size, 11, none⟩ = some (.int .i64 c.gr) := blkC b0 11
  have z12 : W1.cell? ⟨v.heap.size, 12, none⟩ = some (.string c.dn) := blkC b0 12
  have z13 : W1.cell? ⟨v.heap.size, 13, none⟩ = some (.int .i64 c.dr) := blkC b0 13
  have z14 : W1.cell? ⟨v.heap.size, 14, none⟩ = some (.int .i64 c.dd) := blkC b0 14
  have z15 : W1.cell? ⟨v.heap.size, 15, none⟩ = some (.slice c.dA c.dl' c.dc) := blkC b0 15
  have z16 : W1.cell? ⟨v.heap.size, 16, none⟩ = some (.int .i64 c.ie.1) := blkC b0 16
  have z17 : W1.cell? ⟨v.heap.size, 17, none⟩ = some (.int .i64 c.ie.2.1) := blkC b0 17
  have z18 : W1.cell? ⟨v.heap.size, 18, none⟩ = some (.int .i64 c.ie.2.2) := blkC b0 18
  have z19 : W1.cell? ⟨v.heap.size, 19, none⟩ = some (.int .i64 c.im) := blkC b0 19
  have z20 : W1.cell? ⟨v.heap.size, 20, none⟩ = some (.bool c.ii) := blkC b0 20
  have z21 : W1.cell? ⟨v.heap.size, 21, none⟩ = some (.int .i64 c.ig) := blkC b0 21
  have z22 : W1.cell? ⟨v.heap.size, 22, none⟩ = some (.int .i64 c.res) := blkC b0 22
  have z23 : W1.cell? ⟨v.heap.size, 23, none⟩ = some (.string c.dat) := blkC b0 23
  have y0 : W1.cell? ⟨v.heap.size + 1, 0, none⟩ = some (.int .i64 k) := blkC b1 0
  have y1 : W1.cell? ⟨v.heap.size + 1, 1, none⟩ = some (.int .i64 0) := blkC b1 1
  have y2 : W1.cell? ⟨v.heap.size + 1, 2, none⟩ = some (.int .i64 0) := blkC b1 2
  have y3 : W1.cell? ⟨v.heap.size + 1, 3, none⟩ = some (.int .i64 0) := blkC b1 3
  have y4 : W1.cell? ⟨v.heap.size + 1, 4, none⟩ = some (.int .i64 0) := blkC b1 4
  have y5 : W1.cell? ⟨v.heap.size + 1, 5, none⟩ = some (.int .i64 0) := blkC b1 5
  have y6 : W1.cell? ⟨v.heap.size + 1, 6, none⟩ = some (.string ⟨#[]⟩) := blkC b1 6
  have y7 : W1.cell? ⟨v.heap.size + 1, 7, none⟩ = some (.int .i64 0) := blkC b1 7
  have y8 : W1.cell? ⟨v.heap.size + 1, 8, none⟩ = some (.int .i64 0) := blkC b1 8
  have y9 : W1.cell? ⟨v.heap.size + 1, 9, none⟩ = some (.string ⟨#[]⟩) := blkC b1 9
  have y10 : W1.cell? ⟨v.heap.size + 1, 10, none⟩ = some (.string ⟨#[]⟩) := blkC b1 10
  have y11 : W1.cell? ⟨v.heap.size + 1, 11, none⟩ = some (.int .i64 0) := blkC b1 11
  have y12 : W1.cell? ⟨v.heap.size + 1, 12, none⟩ = some (.string ⟨#[]⟩) := blkC b1 12
  have y13 : W1.cell? ⟨v.heap.size + 1, 13, none⟩ = some (.int .i64 0) := blkC b1 13
  have y14 : W1.cell? ⟨v.heap.size + 1, 14, none⟩ = some (.int .i64 0) := blkC b1 14
  have y15 : W1.cell? ⟨v.heap.size + 1, 15, none⟩ = some (.slice none 0 0) := blkC b1 15
  have y16 : W1.cell? ⟨v.heap.size + 1, 16, none⟩ = some (.int .i64 0) := blkC b1 16
  have y17 : W1.cell? ⟨v.heap.size + 1, 17, none⟩ = some (.int .i64 0) := blkC b1 17
  have y18 : W1.cell? ⟨v.heap.size + 1, 18, none⟩ = some (.int .i64 0) := blkC b1 18
  have y19 : W1.cell? ⟨v.heap.size + 1, 19, none⟩ = some (.int .i64 0) := blkC b1 19
  have y20 : W1.cell? ⟨v.heap.size + 1, 20, none⟩ = some (.bool false) := blkC b1 20
  have y21 : W1.cell? ⟨v.heap.size + 1, 21, none⟩ = some (.int .i64 0) := blkC b1 21
  have y22 : W1.cell? ⟨v.heap.size + 1, 22, none⟩ = some (.int .i64 0) := blkC b1 22
  have y23 : W1.cell? ⟨v.heap.size + 1, 23, none⟩ = some (.string ⟨#[]⟩) := blkC b1 23
  have hx0 := blkX b0
  have hx1 := blkX b1
  have hd := eqlDef c.dn c.dr c.dd c.dA c.dl' c.dc
  skip
  obtain ⟨ok, hok⟩ : ∃ z, z = onlyK c k := ⟨_, rfl⟩
  rw [← hok]
  unfold onlyK at hok
  obtain ⟨rd, hrd⟩ : ∃ z, z = (decide (c.dn = noText) && decide (c.dr = 0) && decide (c.dd = 0) && decide (c.dl' = 0)) := ⟨_, rfl⟩
  rw [← hrd] at hd hok
  replace hrd := Lib.hid hrd; replace b0 := Lib.hid b0; replace b1 := Lib.hid b1
  cases rd with
  | false =>
    simp only [Bool.false_and] at hok
    subst hok
    have u12 := z12; rw [hW1] at u12; have u12_ := y12; rw [hW1] at u12_
    have u13 := z13; rw [hW1] at u13; have u13_ := y13; rw [hW1] at u13_
    have u14 := z14; rw [hW1] at u14; have u14_ := y14; rw [hW1] at u14_
    have u15 := z15; rw [hW1] at u15; have u15_ := y15; rw [hW1] at u15_
    go_enter Tryz.func82, Tryz.ntmps82
    go_wp2_with (fail)
    rw [← hW1]
    refine (hd _).mono ?_
    rintro e w2 ⟨rfl, b2⟩
    have k2 := Lib.hid (k1.trans (b2.mono k1.size))
    clear b2 k1 hW1 hd
    go_wp2_with (fail)
    go_ret
    exact ⟨rfl, k2.out⟩
  | true =>
    simp only [Bool.true_and] at hok
    replace hok := Lib.hid hok
    have u12 := z12; rw [hW1] at u12; have u12_ := y12; rw [hW1] at u12_
    have u13 := z13; rw [hW1] at u13; have u13_ := y13; rw [hW1] at u13_
    have u14 := z14; rw [hW1] at u14; have u14_ := y14; rw [hW1] at u14_
    have u15 := z15; rw [hW1] at u15; have u15_ := y15; rw [hW1] at u15_
    go_enter Tryz.func82, Tryz.ntmps82
    go_wp2_with (fail)
    rw [← hW1]
    replace hW1 := Lib.hid hW1
    refine (hd _).mono ?_
    rintro e w2 ⟨rfl, b2⟩
    replace z0 := (b2.cell (p := ⟨v.heap.size, 0, none⟩) hx0).trans z0
    replace z1 := (b2.cell (p := ⟨v.heap.size, 1, none⟩) hx0).trans z1
    replace z2 := (b2.cell (p := ⟨v.heap.size, 2, none⟩) hx0).trans z2
    replace z3 := (b2.cell (p := ⟨v.heap.size, 3, none⟩) hx0).trans z3
    replace z4 := (b2.cell (p := ⟨v.heap.size, 4, none⟩) hx0).trans z4
    replace z5 := (b2.cell (p := ⟨v.heap.size, 5, none⟩) hx0).trans z5
    replace z6 := (b2.cell (p := ⟨v.heap.size, 6, none⟩) hx0).trans z6
    replace z7 := (b2.cell (p := ⟨v.heap.size, 7, none⟩) hx0).trans z7
    replace z8 := (b2.cell (p := ⟨v.heap.size, 8, none⟩) hx0).trans z8
    replace z9 := (b2.cell (p := ⟨v.heap.size, 9, none⟩) hx0).trans z9
    replace z10 := (b2.cell (p := ⟨v.heap.size, 10, none⟩) hx0).trans z10
    replace z11 := (b2.cell (p := ⟨v.heap.size, 11, none⟩) hx0).trans z11
    replace z12 := (b2.cell (p := ⟨v.heap.size, 12, none⟩) hx0).trans z12
    replace z13 := (b2.cell (p := ⟨v.heap.size, 13, none⟩) hx0).trans z13
    replace z14 := (b2.cell (p := ⟨v.heap.size, 14, none⟩) hx0).trans z14
    replace z15 := (b2.cell (p := ⟨v.heap.size, 15, none⟩) hx0).trans z15
    replace z16 := (b2.cell (p := ⟨v.heap.size, 16, none⟩) hx0).trans z16
    replace z17 := (b2.cell (p := ⟨v.heap.size, 17, none⟩) hx0).trans z17
    replace z18 := (b2.cell (p := ⟨v.heap.size, 18, none⟩) hx0).trans z18
    replace z19 := (b2.cell (p := ⟨v.heap.size, 19, none⟩) hx0).trans z19
    replace z20 := (b2.cell (p := ⟨v.heap.size, 20, none⟩) hx0).trans z20
    replace z21 := (b2.cell (p := ⟨v.heap.size, 21, none⟩) hx0).trans z21
    replace z22 := (b2.cell (p := ⟨v.heap.size, 22, none⟩) hx0).trans z22
    replace z23 := (b2.cell (p := ⟨v.heap.size, 23, none⟩) hx0).trans z23
    replace y0 := (b2.cell (p := ⟨v.heap.size + 1, 0, none⟩) hx1).trans y0
    replace y1 := (b2.cell (p := ⟨v.heap.size + 1, 1, none⟩) hx1).trans y1
    replace y2 := (b2.cell (p := ⟨v.heap.size + 1, 2, none⟩) hx1).trans y2
    replace y3 := (b2.cell (p := ⟨v.heap.size + 1, 3, none⟩) hx1).trans y3
    replace y4 := (b2.cell (p := ⟨v.heap.size + 1, 4, none⟩) hx1).trans y4
    replace y5 := (b2.cell (p := ⟨v.heap.size + 1, 5, none⟩) hx1).trans y5
    replace y6 := (b2.cell (p := ⟨v.heap.size + 1, 6, none⟩) hx1).trans y6
    replace y7 := (b2.cell (p := ⟨v.heap.size + 1, 7, none⟩) hx1).trans y7
    replace y8 := (b2.cell (p := ⟨v.heap.size + 1, 8, none⟩) hx1).trans y8
    replace y9 := (b2.cell (p := ⟨v.heap.size + 1, 9, none⟩) hx1).trans y9
    replace y10 := (b2.cell (p := ⟨v.heap.size + 1, 10, none⟩) hx1).trans y10
    replace y11 := (b2.cell (p := ⟨v.heap.size + 1, 11, none⟩) hx1).trans y11
    replace y12 := (b2.cell (p := ⟨v.heap.size + 1, 12, none⟩) hx1).trans y12
    replace y13 := (b2.cell (p := ⟨v.heap.size + 1, 13, none⟩) hx1).trans y13
    replace y14 := (b2.cell (p := ⟨v.heap.size + 1, 14, none⟩) hx1).trans y14
    replace y15 := (b2.cell (p := ⟨v.heap.size + 1, 15, none⟩) hx1).trans y15
    replace y16 := (b2.cell (p := ⟨v.heap.size + 1, 16, none⟩) hx1).trans y16
    replace y17 := (b2.cell (p := ⟨v.heap.size + 1, 17, none⟩) hx1).trans y17
    replace y18 := (b2.cell (p := ⟨v.heap.size + 1, 18, none⟩) hx1).trans y18
    replace y19 := (b2.cell (p := ⟨v.heap.size + 1, 19, none⟩) hx1).trans y19
    replace y20 := (b2.cell (p := ⟨v.heap.size + 1, 20, none⟩) hx1).trans y20
    replace y21 := (b2.cell (p := ⟨v.heap.size + 1, 21, none⟩) hx1).trans y21
    replace y22 := (b2.cell (p := ⟨v.heap.size + 1, 22, none⟩) hx1).trans y22
    replace y23 := (b2.cell (p := ⟨v.heap.size + 1, 23, none⟩) hx1).trans y23
    have k2 := Lib.hid (k1.trans (b2.mono k1.size))
    clear b2 k1 u12 u13 u14 u15 u12_ u13_ u14_ u15_
    go_wp2_with (fail)
    all_goals go_ret
    all_goals refine ⟨?_, k2.out⟩
    all_goals replace hok := hok.out
    all_goals clear k2 hrd b0 b1 hx0 hx1 hd hW1 z0 y0 z1 y1 z2 y2 z3 y3 z4 y4 z5 y5 z6 y6 z7 y7 z8 y8 z9 y9 z10 y10 z11 y11 z12 y12 z13 y13 z14 y14 z15 y15 z16 y16 z17 y17 z18 y18 z19 y19 z20 y20 z21 y21 z22 y22 z23 y23
    all_goals rw [hok]
    all_goals congr 2
    all_goals first | done | simp_all [tl_emp, tl_nil, Prod.ext_iff]
end Go.Proofs.YtkpfkabdodnooaaGreatDoor
