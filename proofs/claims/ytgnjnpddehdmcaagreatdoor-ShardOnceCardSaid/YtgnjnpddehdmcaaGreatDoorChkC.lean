/- cmds.Check. -/
import Derived.Test.YtgnjnpddehdmcaaGreatDoorFlf
import Derived.Test.YtgnjnpddehdmcaaGreatDoorRowK
import Derived.Deep.WholeRow
namespace Go.Proofs.YtgnjnpddehdmcaaGreatDoor
open Go.RowKit Go.Shelf
set_option linter.unusedSimpArgs false
set_option linter.unusedVariables false
set_option linter.unusedSectionVars false
set_option maxRecDepth 10000
theorem eqlStep (A : Option Addr) (n : Nat) (c : Nat) (w : World) : Calls Tryz.prog 158 #[.slice A n c, .slice none 0 0] w fun e w' => e = .returned (.bool (decide (n = 0))) ∧ w' = w := by
 by_cases hn : n = 0
 ·
  subst hn
  go_enter Tryz.func158, Tryz.ntmps158
  go_wp2_with (fail)
  go_loopw [13] (fun i wr => i = .int .i64 0 ∧ wr = w) (fun _ _ => 0)
  case atStart => exact ⟨rfl, rfl⟩
  case round =>
   revert wr
   rintro W1 ⟨rfl, rfl⟩
   go_wp2_with (fail)
   go_ret
   exact ⟨rfl, rfl⟩
 ·
  rw [decide_eq_false hn]
  have h1 : ((n : Int) != 0) = true := by simpa using hn
  have h2 : ¬ (n : Int) = 0 := by omega
  have h3 : ((n : Int) == 0) = false := by simpa using hn
  go_enter Tryz.func158, Tryz.ntmps158
  go_wp2_with (fail)
  go_ret
  exact ⟨rfl, rfl⟩
theorem eqlDef (dn : ByteArray) (dr dd : Int) (dA : Option Addr) (dl dc : Nat) (w : World) : Calls Tryz.prog 53 #[.agg #[.string dn, .int .i64 dr, .int .i64 dd, .slice dA dl dc], .agg #[.string ⟨#[]⟩, .int .i64 0, .int .i64 0, .slice none 0 0]] w fun e w' => e = .returned (.bool (decide (dn = noText) && decide (dr = 0) && decide (dd = 0) && decide (dl = 0))) ∧ Below w.heap.size w w' := by
 by_cases h0 : dn = noText
 rotate_left
 ·
  have q0 : dn.toList.isEmpty = false ∧ ¬ dn.toList = [] := by exact ⟨by rw [tl_emp, decide_eq_false h0], fun q => h0 (tl_nil.1 q)⟩
  obtain ⟨q0, q0'⟩ := q0
  rw [decide_eq_false h0]
  simp only [Bool.and_false, Bool.false_and]
  go_enter Tryz.func53, Tryz.ntmps53
  go_wp2_with (fail)
  go_ret
  exact ⟨rfl, by repeat (first | exact Below.refl _ _ | refine Below.setCell ?_ (by simp <;> omega) _ | refine Below.alloc ?_ (by simp <;> omega) _)⟩
 obtain rfl : dn = ⟨#[]⟩ := h0
 by_cases h1 : dr = 0
 rotate_left
 ·
  have q1 : (dr == 0) = false := by simpa using h1
  skip
  rw [decide_eq_false h1]
  simp only [Bool.and_false, Bool.false_and]
  go_enter Tryz.func53, Tryz.ntmps53
  go_wp2_with (fail)
  go_ret
  exact ⟨rfl, by repeat (first | exact Below.refl _ _ | refine Below.setCell ?_ (by simp <;> omega) _ | refine Below.alloc ?_ (by simp <;> omega) _)⟩
 subst h1
 by_cases h2 : dd = 0
 rotate_left
 ·
  have q2 : (dd == 0) = false := by simpa using h2
  skip
  rw [decide_eq_false h2]
  simp only [Bool.and_false, Bool.false_and]
  go_enter Tryz.func53, Tryz.ntmps53
  go_wp2_with (fail)
  go_ret
  exact ⟨rfl, by repeat (first | exact Below.refl _ _ | refine Below.setCell ?_ (by simp <;> omega) _ | refine Below.alloc ?_ (by simp <;> omega) _)⟩
 subst h2
 have hs := eqlStep dA dl dc
 rw [show (decide ((⟨#[]⟩ : ByteArray) = noText) && decide ((0 : Int) = 0) && decide ((0 : Int) = 0) && decide (dl = 0)) = decide (dl = 0) from rfl]
 generalize decide (dl = 0) = r at *
 go_enter Tryz.func53, Tryz.ntmps53
 go_wp2_with (fail)
 refine (hs _).mono ?_
 rintro e w2 ⟨rfl, rfl⟩
 go_wp2_with (fail)
 go_ret
 exact ⟨rfl, by repeat (first | exact Below.refl _ _ | refine Below.setCell ?_ (by simp <;> omega) _ | refine Below.alloc ?_ (by simp <;> omega) _)⟩
def zeroCd (k : Int) : Cd := ⟨k, 0, 0, (0, 0, 0), noText, 0, 0, (noText, noText), 0, noText, 0, 0, none, 0, 0, (0, 0, 0), 0, false, 0, 0, noText⟩
def onlyK (c : Cd) (k : Int) : Bool := (decide (c.dn = noText) && decide (c.dr = 0) && decide (c.dd = 0) && decide (c.dl' = 0)) && decide (c.e = (0, 0, 0)) && decide (c.r = (noText, noText)) && (decide (c.ie = (0, 0, 0)) && decide (c.im = 0) && !c.ii && decide (c.ig = 0)) && decide (c.k = k) && decide (c.call = 0) && decide (c.saga = 0) && decide (c.key = noText) && decide (c.dl = 0) && decide (c.mv = 0) && decide (c.gr = 0) && decide (c.res = 0) && decide (c.dat = noText)

set_option maxHeartbeats 8000000 in
theorem eqlCmd (c : Cd) (k : Int) (v : World) : Calls Tryz.prog 19 #[.agg (cdV c), .agg (cdV (zeroCd k))] v fun e w' => e = .returned (.bool (onlyK c k)) ∧ Below v.heap.size v w' := by
 obtain ⟨W1, hW1⟩ : ∃ W1, W1 = (v.alloc (.cells (cdV c) 40)).alloc (.cells (cdV (zeroCd k)) 40) := ⟨_, rfl⟩
 have k1 : Below v.heap.size v W1 := by rw [hW1]; exact ((Below.refl _ v).alloc (Nat.le_refl _) _).alloc (by simp) _
 have b0 : W1.heap[v.heap.size]? = some (.cells (cdV c) 40 (0, 0)) := by rw [hW1]; exact (hpOld _ (by simp)).trans (hpNew _ _)
 have b1 : W1.heap[v.heap.size + 1]? = some (.cells (cdV (zeroCd k)) 40 (0, 0)) := by rw [hW1]; exact hpNewAt _ (by simp)
 have z0 : W1.cell? ⟨v.heap.size, 0, none⟩ = some (.int .i64 c.k) := blkC b0 0
 have z1 : W1.cell? ⟨v.heap.size, 1, none⟩ = some (.int .i64 c.call) := blkC b0 1
 have z2 : W1.cell? ⟨v.heap.size, 2, none⟩ = some (.int .i64 c.saga) := blkC b0 2
 have z3 : W1.cell? ⟨v.heap.size, 3, none⟩ = some (.int .i64 c.e.1) := blkC b0 3
 have z4 : W1.cell? ⟨v.heap.size, 4, none⟩ = some (.int .i64 c.e.2.1) := blkC b0 4
 have z5 : W1.cell? ⟨v.heap.size, 5, none⟩ = some (.int .i64 c.e.2.2) := blkC b0 5
 have z6 : W1.cell? ⟨v.heap.size, 6, none⟩ = some (.string c.key) := blkC b0 6
 have z7 : W1.cell? ⟨v.heap.size, 7, none⟩ = some (.int .i64 c.dl) := blkC b0 7
 have z8 : W1.cell? ⟨v.heap.size, 8, none⟩ = some (.int .i64 c.mv) := blkC b0 8
 have z9 : W1.cell? ⟨v.heap.size, 9, none⟩ = some (.string c.r.1) := blkC b0 9
 have z10 : W1.cell? ⟨v.heap.size, 10, none⟩ = some (.string c.r.2) := blkC b0 10
 have z11 : W1.cell? ⟨v.heap.size, 11, none⟩ = some (.int .i64 c.gr) := blkC b0 11
 have z12 : W1.cell? ⟨v.heap.size, 12, none⟩ = some (.string c.dn) := blkC b0 12
 have z13 : W1.cell? ⟨v.heap.size, 13, none⟩ = some (.int .i64 c.dr) := blkC b0 13
 have z14 : W1.cell? ⟨v.heap.size, 14, none⟩ = some (.int .i64 c.dd) := blkC b0 14
 have z15 : W1.cell? ⟨v.heap.size, 15, none⟩ = some (.slice c.dA c.dl' c.dc) := blkC b0 15
 have z16 : W1.cell? ⟨v.heap.size, 16, none⟩ = some (.int .i64 c.ie.1) := blkC b0 16
 have z17 : W1.cell? ⟨v.heap.size, 17, none⟩ = some (.int .i64 c.ie.2.1) := blkC b0 17
 have z18 : W1.cell? ⟨v.heap.size, 18, none⟩ = some (.int .i64 c.ie.2.2) := blkC b0 18
 have z19 : W1.cell? ⟨v.heap.size, 19, none⟩ = some (.int .i64 c.im) := blkC b0 19
 have z20 : W1.cell? ⟨v.heap.size, 20, none⟩ = some (.bool c.ii) := blkC b0 20
 have z21 : W1.cell? ⟨v.heap.size, 21, none⟩ = some (.int .i64 c.ig) := blkC b0 21
 have z22 : W1.cell? ⟨v.heap.size, 22, none⟩ = some (.int .i64 c.res) := blkC b0 22
 have z23 : W1.cell? ⟨v.heap.size, 23, none⟩ = some (.string c.dat) := blkC b0 23
 have y0 : W1.cell? ⟨v.heap.size + 1, 0, none⟩ = some (.int .i64 k) := blkC b1 0
 have y1 : W1.cell? ⟨v.heap.size + 1, 1, none⟩ = some (.int .i64 0) := blkC b1 1
 have y2 : W1.cell? ⟨v.heap.size + 1, 2, none⟩ = some (.int .i64 0) := blkC b1 2
 have y3 : W1.cell? ⟨v.heap.size + 1, 3, none⟩ = some (.int .i64 0) := blkC b1 3
 have y4 : W1.cell? ⟨v.heap.size + 1, 4, none⟩ = some (.int .i64 0) := blkC b1 4
 have y5 : W1.cell? ⟨v.heap.size + 1, 5, none⟩ = some (.int .i64 0) := blkC b1 5
 have y6 : W1.cell? ⟨v.heap.size + 1, 6, none⟩ = some (.string ⟨#[]⟩) := blkC b1 6
 have y7 : W1.cell? ⟨v.heap.size + 1, 7, none⟩ = some (.int .i64 0) := blkC b1 7
 have y8 : W1.cell? ⟨v.heap.size + 1, 8, none⟩ = some (.int .i64 0) := blkC b1 8
 have y9 : W1.cell? ⟨v.heap.size + 1, 9, none⟩ = some (.string ⟨#[]⟩) := blkC b1 9
 have y10 : W1.cell? ⟨v.heap.size + 1, 10, none⟩ = some (.string ⟨#[]⟩) := blkC b1 10
 have y11 : W1.cell? ⟨v.heap.size + 1, 11, none⟩ = some (.int .i64 0) := blkC b1 11
 have y12 : W1.cell? ⟨v.heap.size + 1, 12, none⟩ = some (.string ⟨#[]⟩) := blkC b1 12
 have y13 : W1.cell? ⟨v.heap.size + 1, 13, none⟩ = some (.int .i64 0) := blkC b1 13
 have y14 : W1.cell? ⟨v.heap.size + 1, 14, none⟩ = some (.int .i64 0) := blkC b1 14
 have y15 : W1.cell? ⟨v.heap.size + 1, 15, none⟩ = some (.slice none 0 0) := blkC b1 15
 have y16 : W1.cell? ⟨v.heap.size + 1, 16, none⟩ = some (.int .i64 0) := blkC b1 16
 have y17 : W1.cell? ⟨v.heap.size + 1, 17, none⟩ = some (.int .i64 0) := blkC b1 17
 have y18 : W1.cell? ⟨v.heap.size + 1, 18, none⟩ = some (.int .i64 0) := blkC b1 18
 have y19 : W1.cell? ⟨v.heap.size + 1, 19, none⟩ = some (.int .i64 0) := blkC b1 19
 have y20 : W1.cell? ⟨v.heap.size + 1, 20, none⟩ = some (.bool false) := blkC b1 20
 have y21 : W1.cell? ⟨v.heap.size + 1, 21, none⟩ = some (.int .i64 0) := blkC b1 21
 have y22 : W1.cell? ⟨v.heap.size + 1, 22, none⟩ = some (.int .i64 0) := blkC b1 22
 have y23 : W1.cell? ⟨v.heap.size + 1, 23, none⟩ = some (.string ⟨#[]⟩) := blkC b1 23
 have hx0 := blkX b0
 have hx1 := blkX b1
 have hd := eqlDef c.dn c.dr c.dd c.dA c.dl' c.dc
 skip
 obtain ⟨ok, hok⟩ : ∃ z, z = onlyK c k := ⟨_, rfl⟩
 rw [← hok]
 unfold onlyK at hok
 obtain ⟨rd, hrd⟩ : ∃ z, z = (decide (c.dn = noText) && decide (c.dr = 0) && decide (c.dd = 0) && decide (c.dl' = 0)) := ⟨_, rfl⟩
 rw [← hrd] at hd hok
 replace hrd := Lh hrd; replace b0 := Lh b0; replace b1 := Lh b1
 cases rd with
 | false =>
  simp only [Bool.false_and] at hok
  subst hok
  have u12 := z12; rw [hW1] at u12; have u12_ := y12; rw [hW1] at u12_
  have u13 := z13; rw [hW1] at u13; have u13_ := y13; rw [hW1] at u13_
  have u14 := z14; rw [hW1] at u14; have u14_ := y14; rw [hW1] at u14_
  have u15 := z15; rw [hW1] at u15; have u15_ := y15; rw [hW1] at u15_
  go_enter Tryz.func19, Tryz.ntmps19
  go_wp2_with (fail)
  rw [← hW1]
  refine (hd _).mono ?_
  rintro e w2 ⟨rfl, b2⟩
  have k2 := Lh (k1.trans (b2.mono k1.size))
  clear b2 k1 hW1 hd
  go_wp2_with (fail)
  go_ret
  exact ⟨rfl, k2.out⟩
 | true =>
  simp only [Bool.true_and] at hok
  replace hok := Lh hok
  have u12 := z12; rw [hW1] at u12; have u12_ := y12; rw [hW1] at u12_
  have u13 := z13; rw [hW1] at u13; have u13_ := y13; rw [hW1] at u13_
  have u14 := z14; rw [hW1] at u14; have u14_ := y14; rw [hW1] at u14_
  have u15 := z15; rw [hW1] at u15; have u15_ := y15; rw [hW1] at u15_
  go_enter Tryz.func19, Tryz.ntmps19
  go_wp2_with (fail)
  rw [← hW1]
  replace hW1 := Lh hW1
  refine (hd _).mono ?_
  rintro e w2 ⟨rfl, b2⟩
  replace z0 := (b2.cell (p := ⟨v.heap.size, 0, none⟩) hx0).trans z0
  replace z1 := (b2.cell (p := ⟨v.heap.size, 1, none⟩) hx0).trans z1
  replace z2 := (b2.cell (p := ⟨v.heap.size, 2, none⟩) hx0).trans z2
  replace z3 := (b2.cell (p := ⟨v.heap.size, 3, none⟩) hx0).trans z3
  replace z4 := (b2.cell (p := ⟨v.heap.size, 4, none⟩) hx0).trans z4
  replace z5 := (b2.cell (p := ⟨v.heap.size, 5, none⟩) hx0).trans z5
  replace z6 := (b2.cell (p := ⟨v.heap.size, 6, none⟩) hx0).trans z6
  replace z7 := (b2.cell (p := ⟨v.heap.size, 7, none⟩) hx0).trans z7
  replace z8 := (b2.cell (p := ⟨v.heap.size, 8, none⟩) hx0).trans z8
  replace z9 := (b2.cell (p := ⟨v.heap.size, 9, none⟩) hx0).trans z9
  replace z10 := (b2.cell (p := ⟨v.heap.size, 10, none⟩) hx0).trans z10
  replace z11 := (b2.cell (p := ⟨v.heap.size, 11, none⟩) hx0).trans z11
  replace z12 := (b2.cell (p := ⟨v.heap.size, 12, none⟩) hx0).trans z12
  replace z13 := (b2.cell (p := ⟨v.heap.size, 13, none⟩) hx0).trans z13
  replace z14 := (b2.cell (p := ⟨v.heap.size, 14, none⟩) hx0).trans z14
  replace z15 := (b2.cell (p := ⟨v.heap.size, 15, none⟩) hx0).trans z15
  replace z16 := (b2.cell (p := ⟨v.heap.size, 16, none⟩) hx0).trans z16
  replace z17 := (b2.cell (p := ⟨v.heap.size, 17, none⟩) hx0).trans z17
  replace z18 := (b2.cell (p := ⟨v.heap.size, 18, none⟩) hx0).trans z18
  replace z19 := (b2.cell (p := ⟨v.heap.size, 19, none⟩) hx0).trans z19
  replace z20 := (b2.cell (p := ⟨v.heap.size, 20, none⟩) hx0).trans z20
  replace z21 := (b2.cell (p := ⟨v.heap.size, 21, none⟩) hx0).trans z21
  replace z22 := (b2.cell (p := ⟨v.heap.size, 22, none⟩) hx0).trans z22
  replace z23 := (b2.cell (p := ⟨v.heap.size, 23, none⟩) hx0).trans z23
  replace y0 := (b2.cell (p := ⟨v.heap.size + 1, 0, none⟩) hx1).trans y0
  replace y1 := (b2.cell (p := ⟨v.heap.size + 1, 1, none⟩) hx1).trans y1
  replace y2 := (b2.cell (p := ⟨v.heap.size + 1, 2, none⟩) hx1).trans y2
  replace y3 := (b2.cell (p := ⟨v.heap.size + 1, 3, none⟩) hx1).trans y3
  replace y4 := (b2.cell (p := ⟨v.heap.size + 1, 4, none⟩) hx1).trans y4
  replace y5 := (b2.cell (p := ⟨v.heap.size + 1, 5, none⟩) hx1).trans y5
  replace y6 := (b2.cell (p := ⟨v.heap.size + 1, 6, none⟩) hx1).trans y6
  replace y7 := (b2.cell (p := ⟨v.heap.size + 1, 7, none⟩) hx1).trans y7
  replace y8 := (b2.cell (p := ⟨v.heap.size + 1, 8, none⟩) hx1).trans y8
  replace y9 := (b2.cell (p := ⟨v.heap.size + 1, 9, none⟩) hx1).trans y9
  replace y10 := (b2.cell (p := ⟨v.heap.size + 1, 10, none⟩) hx1).trans y10
  replace y11 := (b2.cell (p := ⟨v.heap.size + 1, 11, none⟩) hx1).trans y11
  replace y12 := (b2.cell (p := ⟨v.heap.size + 1, 12, none⟩) hx1).trans y12
  replace y13 := (b2.cell (p := ⟨v.heap.size + 1, 13, none⟩) hx1).trans y13
  replace y14 := (b2.cell (p := ⟨v.heap.size + 1, 14, none⟩) hx1).trans y14
  replace y15 := (b2.cell (p := ⟨v.heap.size + 1, 15, none⟩) hx1).trans y15
  replace y16 := (b2.cell (p := ⟨v.heap.size + 1, 16, none⟩) hx1).trans y16
  replace y17 := (b2.cell (p := ⟨v.heap.size + 1, 17, none⟩) hx1).trans y17
  replace y18 := (b2.cell (p := ⟨v.heap.size + 1, 18, none⟩) hx1).trans y18
  replace y19 := (b2.cell (p := ⟨v.heap.size + 1, 19, none⟩) hx1).trans y19
  replace y20 := (b2.cell (p := ⟨v.heap.size + 1, 20, none⟩) hx1).trans y20
  replace y21 := (b2.cell (p := ⟨v.heap.size + 1, 21, none⟩) hx1).trans y21
  replace y22 := (b2.cell (p := ⟨v.heap.size + 1, 22, none⟩) hx1).trans y22
  replace y23 := (b2.cell (p := ⟨v.heap.size + 1, 23, none⟩) hx1).trans y23
  have k2 := Lh (k1.trans (b2.mono k1.size))
  clear b2 k1 u12 u13 u14 u15 u12_ u13_ u14_ u15_
  go_wp2_with (fail)
  all_goals go_ret
  all_goals refine ⟨?_, k2.out⟩
  all_goals replace hok := hok.out
  all_goals clear k2 hrd b0 b1 hx0 hx1 hd hW1 z0 y0 z1 y1 z2 y2 z3 y3 z4 y4 z5 y5 z6 y6 z7 y7 z8 y8 z9 y9 z10 y10 z11 y11 z12 y12 z13 y13 z14 y14 z15 y15 z16 y16 z17 y17 z18 y18 z19 y19 z20 y20 z21 y21 z22 y22 z23 y23
  all_goals rw [hok]
  all_goals congr 2
  all_goals first | done | simp_all [tl_emp, tl_nil, Prod.ext_iff]
theorem fields_any {k : Int} (h0 : 0 ≤ k) (h4 : k ≤ 4) (w : World) : Calls Tryz.prog 18 #[.int .i64 k] w fun e w' => ∃ s A n c, e = .returned (.tuple #[.string s, .slice A n c, .bool true]) ∧ FdsW w' A n (kindF k) ∧ Below w.heap.size w w' := by
 have : k = 0 ∨ k = 1 ∨ k = 2 ∨ k = 3 ∨ k = 4 := by omega
 rcases this with rfl | rfl | rfl | rfl | rfl
 ·
  exact fields0 w
 ·
  exact fields1 w
 ·
  exact fields2 w
 ·
  exact fields3 w
 ·
  exact fields4 w
theorem cd_store (c : Cd) (W : World) (n : Nat) (hn : n = W.heap.size) : (Instr.storeAt 40 (.pointer (some ⟨n, 0, none⟩)) (.agg (cdV c))).run Tryz.prog (W.alloc (.cells #[.int .i64 0, .int .i64 0, .int .i64 0, .int .i64 0, .int .i64 0, .int .i64 0, .string ⟨#[]⟩, .int .i64 0, .int .i64 0, .string ⟨#[]⟩, .string ⟨#[]⟩, .int .i64 0, .string ⟨#[]⟩, .int .i64 0, .int .i64 0, .slice none 0 0, .int .i64 0, .int .i64 0, .int .i64 0, .int .i64 0, .bool false, .int .i64 0, .int .i64 0, .string ⟨#[]⟩] 40)) = .ok () (W.alloc (.cells (cdV c) 40)) := by
 subst hn
 exact run_storeAt_new W 40 _ _ (by rw [show (cdV c).size = 24 from rfl]; kernel_rfl) rfl (by
  rw [Array.all_eq_true_iff_forall_mem]
  intro v hv
  simp [cdV] at hv
  rcases hv with h | h | h | h | h | h | h | h | h | h | h | h | h | h | h | h | h | h | h | h | h | h | h | h <;> subst h <;> rfl)
theorem storeAt_other (t : TypeId) (p x : Value) (h : (t == 40) = false) : Instr.storeAt t p x = (do storeVar t (← Instr.sureAddr p) x) := rfl
def clrs (fs : List ((Cd → Bool) × (Cd → Cd))) (c : Cd) : Cd := fs.foldl (fun x q => q.2 x) c
def allF (fs : List ((Cd → Bool) × (Cd → Cd))) (c : Cd) : Bool := fs.all fun q => q.1 c
def checkB (c : Cd) : Bool := allF (kindF c.k) c && onlyK (clrs (kindF c.k) c) c.k
attribute [-go_sem] Instr.loadAt Instr.storeAt
attribute [local go_sem] loadAt_other storeAt_other
set_option maxHeartbeats 16000000 in
theorem check_cmd (c : Cd) (h0 : 0 ≤ c.k) (h4 : c.k ≤ 4) (hs : szCd c) (v : World) : Calls Tryz.prog 7 #[.agg (cdV c)] v fun e w' => e = .returned (.int .i64 (if checkB c then 0 else 2)) ∧ Below v.heap.size v w' := by
 obtain ⟨fs, hfs⟩ : ∃ z, z = kindF c.k := ⟨_, rfl⟩
 obtain ⟨ck, hck⟩ : ∃ z, z = checkB c := ⟨_, rfl⟩
 rw [← hck]
 unfold checkB at hck
 rw [← hfs] at hck
 obtain ⟨W1, hW1⟩ : ∃ W1, W1 = v.alloc (.cells (cdV c) 40) := ⟨_, rfl⟩
 have k1 : Below v.heap.size v W1 := by rw [hW1]; exact (Below.refl _ v).alloc (Nat.le_refl _) _
 have b0 : W1.heap[v.heap.size]? = some (.cells (cdV c) 40 (0, 0)) := by rw [hW1]; exact hpNew _ _
 have z0 : W1.cell? ⟨v.heap.size, 0, none⟩ = some (.int .i64 c.k) := blkC b0 0
 rw [hW1] at z0
 have hf := fields_any h0 h4 W1
 rw [← hfs] at hf
 replace hck := Lh hck; replace k1 := Lh k1; replace b0 := Lh b0; replace hfs := Lh hfs
 go_enter Tryz.func7, Tryz.ntmps7
 go_wp2_with (fail)
 rw [← hW1]
 replace hW1 := Lh hW1
 refine hf.mono ?_
 rintro e w2 ⟨s, A, n, cc, rfl, hF, b2⟩
 clear hf z0
 have k2 := Lh (k1.out.trans (b2.mono k1.out.size))
 have c0 := (b2.block _ (blkX b0.out)).trans b0.out
 have hld := cd_load c0
 have hst := cd_store c w2 w2.heap.size rfl
 have hx0 : v.heap.size < w2.heap.size := blkX c0
 obtain ⟨fl, hsl, hlen, hfd⟩ := hF.ex
 have hn := hsl.1
 have hn3 : n ≤ 3 := by rw [← hn, hlen, hfs.out]; unfold kindF; repeat (first | split | (simp <;> done))
 replace hF := Lh hF; replace c0 := Lh c0; replace b2 := Lh b2; replace hsl := Lh hsl; replace hfd := Lh hfd; replace hlen := Lh hlen; replace hn := Lh hn
 go_wp2_with (fail)
 go_loopw [5, 19] (fun o i wr => ∃ j : Nat, j ≤ n ∧ i = .int .i64 j ∧ o = .bool (allF (fs.take j) c) ∧ Below w2.heap.size w2 wr ∧ wr.heap[w2.heap.size]? = some (.cells (cdV (clrs (fs.take j) c)) 40 (0, 0))) (fun _ i _ => n - (intOf i).toNat)
 case atStart => exact ⟨0, by omega, rfl, rfl, (Below.refl _ _).alloc (Nat.le_refl _) _, hpNew _ _⟩
 case round =>
  clear hst hld
  revert wr
  intro W1' hrel
  obtain ⟨j, hj, rfl, rfl, hbw, hr⟩ := hrel
  by_cases hlt : j < n
  ·
   obtain ⟨b, o, fd, rfl, hbl, hx, hc⟩ := SL.at_ hsl.out hlt
   have hjf : j < fs.length := by have := hn.out; have := hlen.out; omega
   obtain ⟨q, hq⟩ : ∃ q, fs[j]? = some q := ⟨_, List.getElem?_eq_getElem hjf⟩
   have hw := (hfd.out j fd q hx hq).below hbw
   have htk : fs.take (j + 1) = fs.take j ++ [q] := by rw [List.take_add_one, hq]; rfl
   have ha1 : allF (fs.take (j + 1)) c = (allF (fs.take j) c && q.1 c) := by unfold allF; rw [htk, List.all_append]; simp
   have hc1 : clrs (fs.take (j + 1)) c = q.2 (clrs (fs.take j) c) := by unfold clrs; rw [htk, List.foldl_append]; rfl
   obtain ⟨ga, la, gb, lb, gc, lc, gd, ld, ge, le⟩ := fd
   have s0 := (hbw.cell (p := ⟨b, _, none⟩) hbl).trans (hc 0 _ rfl)
   have s1 := (hbw.cell (p := ⟨b, _, none⟩) hbl).trans (hc 1 _ rfl)
   have s2 := (hbw.cell (p := ⟨b, _, none⟩) hbl).trans (hc 2 _ rfl)
   have s3 := (hbw.cell (p := ⟨b, _, none⟩) hbl).trans (hc 3 _ rfl)
   have s4 := (hbw.cell (p := ⟨b, _, none⟩) hbl).trans (hc 4 _ rfl)
   rw [Nat.add_zero] at s0
   clear hc
   obtain ⟨X1, hX1⟩ : ∃ Z, Z = W1'.alloc (.cells #[.func (.func ga) #[] la, .func (.func gb) #[] lb, .func (.func gc) #[] lc, .func (.func gd) #[] ld, .func (.func ge) #[] le] 77) := ⟨_, rfl⟩
   have bx : Below W1'.heap.size W1' X1 := by rw [hX1]; exact (Below.refl _ _).alloc (Nat.le_refl _) _
   have hwx := hw.below bx
   have cb : X1.heap[v.heap.size]? = some (.cells (cdV c) 40 (0, 0)) := (bx.block _ (by have := hbw.size; omega)).trans ((hbw.block _ hx0).trans c0.out)
   have cr := (bx.block _ (blkX hr)).trans hr
   have ef : X1.heap[W1'.heap.size]? = some (.cells #[.func (.func ga) #[] la, .func (.func gb) #[] lb, .func (.func gc) #[] lc, .func (.func gd) #[] ld, .func (.func ge) #[] le] 77 (0, 0)) := by rw [hX1]; exact hpNew _ _
   have kx := hbw.trans (bx.mono hbw.size)
   have he1 := hw.e1
   have he5 := hw.e5
   simp only at he1 he5
   have j0 : (0 : Int) ≤ j := by omega
   have j1 : (j : Int) < (n : Int) := by omega
   have ho := hwx.ok X1 (Below.refl _ _) v.heap.size c hs cb
   simp only at ho
   obtain ⟨aj, haj⟩ : ∃ z, z = allF (fs.take j) c := ⟨_, rfl⟩
   obtain ⟨rj, hrj⟩ : ∃ z, z = clrs (fs.take j) c := ⟨_, rfl⟩
   rw [← haj] at ha1 ⊢
   rw [← hrj] at hc1 hr cr
   replace hbw := Lh hbw; replace hr := Lh hr; replace hx := Lh hx; replace hq := Lh hq; replace hw := Lh hw; replace htk := Lh htk; replace ha1 := Lh ha1; replace hc1 := Lh hc1; replace bx := Lh bx; replace cb := Lh cb; replace kx := Lh kx; replace hwx := Lh hwx; replace haj := Lh haj; replace hrj := Lh hrj; replace cr := Lh cr
   have e0 : X1.cell? ⟨W1'.heap.size, 0, none⟩ = some (.func (.func ga) #[] la) := blkC ef 0
   have e4 : X1.cell? ⟨W1'.heap.size, 4, none⟩ = some (.func (.func ge) #[] le) := blkC ef 4
   have e0_ := e0; rw [hX1] at e0_
   have e4_ := e4; rw [hX1] at e4_
   replace ef := Lh ef
   cases aj with
   | true => as_aux_lemma =>
    go_wp2_with (fail)
    rw [← hX1]
    refine ho.mono ?_
    rintro e w4 ⟨rfl, b4⟩
    have k4 := Lh (kx.out.trans (b4.mono kx.out.size))
    have hcl := (hwx.out.below b4).clr w4 (Below.refl _ _) w2.heap.size rj ((b4.block _ (blkX cr.out)).trans cr.out)
    simp only at hcl
    have e4' := (b4.cell (p := ⟨W1'.heap.size, 4, none⟩) (blkX ef.out)).trans e4
    have hxr : w2.heap.size < w4.heap.size := Nat.lt_of_lt_of_le (blkX cr.out) b4.size
    clear b4 ho e0 e4 e0_ e4_ hX1 s0 s1 s2 s3 s4
    go_wp2_with (fail)
    refine hcl.mono ?_
    rintro e w5 ⟨rfl, ht⟩
    have k5 : Below w2.heap.size w2 w5 := Chg.belowAfter k4.out ht.chg k4.out.size (fun q hq' e => by omega)
    have hb5 := ht.blk
    replace ht := Lh ht; replace k5 := Lh k5; replace hb5 := Lh hb5
    clear hcl
    go_wp2_with (fail)
    exact ⟨⟨j + 1, by omega, by go_num, by rw [ha1.out]; simp, k5.out, by rw [hc1.out]; exact hb5.out⟩, by simp [intOf]; omega⟩
   | false => as_aux_lemma =>
    go_wp2_with (fail)
    rw [← hX1]
    have hcl := hwx.out.clr X1 (Below.refl _ _) w2.heap.size rj cr.out
    simp only at hcl
    refine hcl.mono ?_
    rintro e w5 ⟨rfl, ht⟩
    have k5 : Below w2.heap.size w2 w5 := Chg.belowAfter kx.out ht.chg kx.out.size (fun q hq' e => by omega)
    have hb5 := ht.blk
    replace ht := Lh ht; replace k5 := Lh k5; replace hb5 := Lh hb5
    clear hcl
    go_wp2_with (fail)
    exact ⟨⟨j + 1, by omega, by go_num, by rw [ha1.out]; simp, k5.out, by rw [hc1.out]; exact hb5.out⟩, by simp [intOf]; omega⟩
  ·
   obtain rfl : j = n := by omega
   have hfl : fs.take j = fs := List.take_of_length_le (by have := hn.out; have := hlen.out; omega)
   rw [hfl] at hr ⊢
   have j1 : ¬ (j : Int) < (j : Int) := by omega
   have cb := (hbw.block _ hx0).trans c0.out
   have z0 : W1'.cell? ⟨v.heap.size, 0, none⟩ = some (.int .i64 c.k) := blkC cb 0
   have hxb := blkX cb
   have hxr := blkX hr
   have hld := cd_load hr
   have heq := fun W => eqlCmd (clrs fs c) c.k W
   rw [show cdV (zeroCd c.k) = #[.int .i64 c.k, .int .i64 0, .int .i64 0, .int .i64 0, .int .i64 0, .int .i64 0, .string ⟨#[]⟩, .int .i64 0, .int .i64 0, .string ⟨#[]⟩, .string ⟨#[]⟩, .int .i64 0, .string ⟨#[]⟩, .int .i64 0, .int .i64 0, .slice none 0 0, .int .i64 0, .int .i64 0, .int .i64 0, .int .i64 0, .bool false, .int .i64 0, .int .i64 0, .string ⟨#[]⟩] from rfl] at heq
   have k5 := Lh (k2.out.trans (hbw.mono k2.out.size))
   replace hbw := Lh hbw; replace hr := Lh hr; replace cb := Lh cb
   obtain ⟨af, haf⟩ : ∃ z, z = allF fs c := ⟨_, rfl⟩
   rw [← haf] at hck ⊢
   replace haf := Lh haf
   generalize clrs fs c = rf at *
   cases af with
   | false =>
    have hno : ck = false := hck.out
    subst hno
    go_wp2_with (fail)
    go_ret
    exact ⟨by simp, k5.out⟩
   | true =>
    have hye : ck = onlyK rf c.k := by rw [hck.out]; simp
    cases hok : onlyK rf c.k with
    | true => as_aux_lemma =>
     rw [hok] at hye heq
     subst hye
     replace hok := Lh hok
     go_wp2_with (fail)
     refine (heq _).mono ?_
     rintro e w6 ⟨rfl, b6⟩
     have k6 := Lh (k5.out.trans (b6.mono k5.out.size))
     clear heq b6
     go_wp2_with (fail)
     go_ret
     exact ⟨by simp, k6.out⟩
    | false => as_aux_lemma =>
     rw [hok] at hye heq
     subst hye
     replace hok := Lh hok
     go_wp2_with (fail)
     refine (heq _).mono ?_
     rintro e w6 ⟨rfl, b6⟩
     have k6 := Lh (k5.out.trans (b6.mono k5.out.size))
     clear heq b6
     go_wp2_with (fail)
     go_ret
     exact ⟨by simp, k6.out⟩
end Go.Proofs.YtgnjnpddehdmcaaGreatDoor
