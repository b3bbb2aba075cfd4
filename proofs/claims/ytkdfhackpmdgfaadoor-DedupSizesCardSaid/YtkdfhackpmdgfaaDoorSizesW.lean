/- The walk of DedupSizes. -/
import Derived.Test.YtkdfhackpmdgfaaDoorShows
namespace Go.Proofs.YtkdfhackpmdgfaaDoor
open Go.RowKit Go.Shelf
set_option linter.unusedSimpArgs false
set_option linter.unusedVariables false
set_option linter.unusedSectionVars false
set_option maxRecDepth 10000
set_option maxHeartbeats 16000000 in
theorem sizes_long (size : Int) (y : Ef) (a b : ByteArray) (w : World) (hsa : a.size ≤ 140737488355328) (hsb : b.size ≤ 140737488355328) (h : 300 < a.size + b.size) : Calls Tryd.prog 3 #[.int .i64 size, .agg #[.int .i64 y.1, .int .i64 y.2.1, .int .i64 y.2.2], .agg #[.string a, .string b]] w fun e w' => e = .returned (.bool true) ∧ Below w.heap.size w w' := by
  have h1 : (300 : Int) < a.size + b.size := by omega
  have hq1 : (a.size : Int) ≤ 140737488355328 := by omega
  have hq2 : (b.size : Int) ≤ 140737488355328 := by omega
  have kb := ((Below.refl _ w).alloc (Nat.le_refl _) (.cells #[.int .i64 y.1, .int .i64 y.2.1, .int .i64 y.2.2] 23)).alloc (by simp) (.cells #[.string a, .string b] 25)
  have he0 : ((w.alloc (.cells #[.int .i64 y.1, .int .i64 y.2.1, .int .i64 y.2.2] 23)).alloc (.cells #[.string a, .string b] 25)).heap[w.heap.size]? = some (.cells #[.int .i64 y.1, .int .i64 y.2.1, .int .i64 y.2.2] 23 (0, 0)) := by rw [hpOld _ (by simp)]; exact hpNew w _
  have hg0 : ((w.alloc (.cells #[.int .i64 y.1, .int .i64 y.2.1, .int .i64 y.2.2] 23)).alloc (.cells #[.string a, .string b] 25)).heap[w.heap.size + 1]? = some (.cells #[.string a, .string b] 25 (0, 0)) := by
    have := hpNew (w.alloc (.cells #[.int .i64 y.1, .int .i64 y.2.1, .int .i64 y.2.2] 23)) (.cells #[.string a, .string b] 25)
    rwa [show (w.alloc (.cells #[.int .i64 y.1, .int .i64 y.2.1, .int .i64 y.2.2] 23)).heap.size = w.heap.size + 1 from by simp] at this
  obtain ⟨W1, hW1⟩ : ∃ x, x = (w.alloc (.cells #[.int .i64 y.1, .int .i64 y.2.1, .int .i64 y.2.2] 23)).alloc (.cells #[.string a, .string b] 25) := ⟨_, rfl⟩
  rw [← hW1] at kb he0 hg0
  have g0 := blkC hg0 0; have g1 := blkC hg0 1
  simp only [List.getElem?_toArray, List.getElem?_cons_zero, List.getElem?_cons_succ] at g0 g1
  rw [hW1] at g0 g1
  replace kb := Lib.hid kb; replace he0 := Lib.hid he0; replace hg0 := Lib.hid hg0
  go_enter Tryd.func3, Tryd.ntmps3
  go_wp2_with (fail)
  rw [← hW1]
  replace hW1 := Lib.hid hW1
  clear g0 g1
  refine (works_any _).mono ?_
  rintro e w9 ⟨rfl, b9⟩
  have K9 := Lib.hid (kb.out.trans (b9.mono kb.out.size))
  clear b9
  go_wp2_with (fail)
  go_ret
  exact ⟨rfl, K9.out⟩
set_option maxHeartbeats 16000000 in
theorem sizes_bad (size : Int) (y : Ef) (a b : ByteArray) (w : World) (h : a.size + b.size ≤ 300) (hz : size < 0 ∨ 2048 < size) : Calls Tryd.prog 3 #[.int .i64 size, .agg #[.int .i64 y.1, .int .i64 y.2.1, .int .i64 y.2.2], .agg #[.string a, .string b]] w fun e w' => e = .returned (.bool true) ∧ Below w.heap.size w w' := by
  have h1 : ¬ (300 : Int) < a.size + b.size := by omega
  have hn := fun W => new_no size W hz
  have hn2 := fun W => rnew_no size W hz
  have hq : (0:Int) ≤ a.size := by omega
  have hq2 : (0:Int) ≤ b.size := by omega
  have kb := ((Below.refl _ w).alloc (Nat.le_refl _) (.cells #[.int .i64 y.1, .int .i64 y.2.1, .int .i64 y.2.2] 23)).alloc (by simp) (.cells #[.string a, .string b] 25)
  have he0 : ((w.alloc (.cells #[.int .i64 y.1, .int .i64 y.2.1, .int .i64 y.2.2] 23)).alloc (.cells #[.string a, .string b] 25)).heap[w.heap.size]? = some (.cells #[.int .i64 y.1, .int .i64 y.2.1, .int .i64 y.2.2] 23 (0, 0)) := by rw [hpOld _ (by simp)]; exact hpNew w _
  have hg0 : ((w.alloc (.cells #[.int .i64 y.1, .int .i64 y.2.1, .int .i64 y.2.2] 23)).alloc (.cells #[.string a, .string b] 25)).heap[w.heap.size + 1]? = some (.cells #[.string a, .string b] 25 (0, 0)) := by
    have := hpNew (w.alloc (.cells #[.int .i64 y.1, .int .i64 y.2.1, .int .i64 y.2.2] 23)) (.cells #[.string a, .string b] 25)
    rwa [show (w.alloc (.cells #[.int .i64 y.1, .int .i64 y.2.1, .int .i64 y.2.2] 23)).heap.size = w.heap.size + 1 from by simp] at this
  obtain ⟨W1, hW1⟩ : ∃ x, x = (w.alloc (.cells #[.int .i64 y.1, .int .i64 y.2.1, .int .i64 y.2.2] 23)).alloc (.cells #[.string a, .string b] 25) := ⟨_, rfl⟩
  rw [← hW1] at kb he0 hg0
  have g0 := blkC hg0 0; have g1 := blkC hg0 1
  simp only [List.getElem?_toArray, List.getElem?_cons_zero, List.getElem?_cons_succ] at g0 g1
  rw [hW1] at g0 g1
  replace kb := Lib.hid kb; replace he0 := Lib.hid he0; replace hg0 := Lib.hid hg0
  go_enter Tryd.func3, Tryd.ntmps3
  go_wp2_with (fail)
  rw [← hW1]
  replace hW1 := Lib.hid hW1
  clear g0 g1
  refine (hn _).mono ?_
  rintro e w2 ⟨rfl, rfl⟩
  go_wp2_with (fail)
  refine (hn2 _).mono ?_
  rintro e w3 ⟨rfl, rfl⟩
  clear hn hn2
  go_wp2_with (fail)
  refine (works_any _).mono ?_
  rintro e w9 ⟨rfl, b9⟩
  have K9 := Lib.hid (kb.out.trans (b9.mono kb.out.size))
  clear b9
  go_wp2_with (fail)
  go_ret
  exact ⟨rfl, K9.out⟩
set_option maxHeartbeats 16000000 in
theorem sizes_good (size : Int) (y : Ef) (a b : ByteArray) (w : World) (h : a.size + b.size ≤ 300) (hz : 0 ≤ size ∧ size ≤ 2048) : Calls Tryd.prog 3 #[.int .i64 size, .agg #[.int .i64 y.1, .int .i64 y.2.1, .int .i64 y.2.2], .agg #[.string a, .string b]] w fun e w' => e = .returned (.bool true) ∧ Below w.heap.size w w' := by
  have h1 : ¬ (300 : Int) < a.size + b.size := by omega
  have hq : (0:Int) ≤ a.size := by omega
  have hq2 : (0:Int) ≤ b.size := by omega
  have kb := ((Below.refl _ w).alloc (Nat.le_refl _) (.cells #[.int .i64 y.1, .int .i64 y.2.1, .int .i64 y.2.2] 23)).alloc (by simp) (.cells #[.string a, .string b] 25)
  have he0 : ((w.alloc (.cells #[.int .i64 y.1, .int .i64 y.2.1, .int .i64 y.2.2] 23)).alloc (.cells #[.string a, .string b] 25)).heap[w.heap.size]? = some (.cells #[.int .i64 y.1, .int .i64 y.2.1, .int .i64 y.2.2] 23 (0, 0)) := by rw [hpOld _ (by simp)]; exact hpNew w _
  have hg0 : ((w.alloc (.cells #[.int .i64 y.1, .int .i64 y.2.1, .int .i64 y.2.2] 23)).alloc (.cells #[.string a, .string b] 25)).heap[w.heap.size + 1]? = some (.cells #[.string a, .string b] 25 (0, 0)) := by
    have := hpNew (w.alloc (.cells #[.int .i64 y.1, .int .i64 y.2.1, .int .i64 y.2.2] 23)) (.cells #[.string a, .string b] 25)
    rwa [show (w.alloc (.cells #[.int .i64 y.1, .int .i64 y.2.1, .int .i64 y.2.2] 23)).heap.size = w.heap.size + 1 from by simp] at this
  obtain ⟨W1, hW1⟩ : ∃ x, x = (w.alloc (.cells #[.int .i64 y.1, .int .i64 y.2.1, .int .i64 y.2.2] 23)).alloc (.cells #[.string a, .string b] 25) := ⟨_, rfl⟩
  rw [← hW1] at kb he0 hg0
  have g0 := blkC hg0 0; have g1 := blkC hg0 1
  simp only [List.getElem?_toArray, List.getElem?_cons_zero, List.getElem?_cons_succ] at g0 g1
  rw [hW1] at g0 g1
  replace kb := Lib.hid kb; replace he0 := Lib.hid he0; replace hg0 := Lib.hid hg0
  go_enter Tryd.func3, Tryd.ntmps3
  go_wp2_with (fail)
  rw [← hW1]
  replace hW1 := Lib.hid hW1
  clear g0 g1
  have hn := new_ok size W1.heap.size W1 hz.1 hz.2 (Nat.le_refl _)
  refine hn.mono ?_
  rintro e w2 ⟨rfl, ht, hb⟩
  have T := tb_new ht hb
  have hDt : ∃ cs, w2.heap[W1.heap.size]? = some (.cells cs 52 (0, 0)) := ⟨_, ht.blk⟩
  clear hn ht
  have hn := rnew_ok size W1.heap.size w2 hz.1 hz.2 T.le
  have he := Lib.hid ((hb.block _ (blkX he0.out)).trans he0.out)
  have hg := Lib.hid ((hb.block _ (blkX hg0.out)).trans hg0.out)
  have hD1 : W1.heap.size < w2.heap.size := T.lt
  clear hb he0 hg0
  replace T := Lib.hid T
  go_wp2_with (fail)
  refine hn.mono ?_
  rintro e w3 ⟨rfl, hr, hb3⟩
  have R : TbR W1.heap.size W1 w2.heap.size size [] w3 := ⟨⟨_, _, hr⟩, T.out.bel.trans (hb3.mono T.out.le), Nat.le_trans T.out.le hb3.size⟩
  have hEt : ∃ cs, w3.heap[w2.heap.size]? = some (.cells cs 85 (0, 0)) := ⟨_, hr.blk⟩
  have hDt3 : ∃ cs, w3.heap[W1.heap.size]? = some (.cells cs 52 (0, 0)) := by obtain ⟨cs, hh⟩ := hDt; exact ⟨cs, (hb3.block _ (blkX hh)).trans hh⟩
  have TX := Lib.hid (T.out.below hb3)
  clear T; have T := TX; clear TX
  have heX := Lib.hid ((hb3.block _ (blkX he.out)).trans he.out); have hgX := Lib.hid ((hb3.block _ (blkX hg.out)).trans hg.out)
  clear he hg; have he := heX; have hg := hgX; clear heX hgX
  obtain ⟨D, hD⟩ : ∃ x, x = W1.heap.size := ⟨_, rfl⟩
  obtain ⟨E, hE⟩ : ∃ x, x = w2.heap.size := ⟨_, rfl⟩
  have hwD : w.heap.size + 1 < D := by rw [hD]; have := hg.out; have hW := hW1.out; rw [hW]; simp
  rw [← hE] at R hEt hD1
  rw [← hE]
  have T' : Tb W1.heap.size W1 D size [] w3 := by rw [hD]; exact T.out
  rw [← hD] at hDt3
  have hgoal : True := trivial
  replace R := Lib.hid R; replace hEt := Lib.hid hEt; replace hDt3 := Lib.hid hDt3; replace hwD := Lib.hid hwD; replace hE := Lib.hid hE
  clear hn hr hDt T
  have T := Lib.hid T'; clear T'
  have hgD : w.heap.size + 1 ≠ D := by have := hwD.out; omega
  have heD : w.heap.size ≠ D := by have := hwD.out; omega
  have hDE : D < E := by rw [hD]; exact hD1
  have hgE : w.heap.size + 1 ≠ E := by have := hwD.out; omega
  have heE : w.heap.size ≠ E := by have := hwD.out; omega
  rw [← hD]
  replace hD := Lib.hid hD; replace hD1 := Lib.hid hD1
  replace hgD := Lib.hid hgD; replace heD := Lib.hid heD; replace hDE := Lib.hid hDE; replace hgE := Lib.hid hgE; replace heE := Lib.hid heE
  replace hb3 := Lib.hid hb3
  have hS := Same.nil.take (a, b)
  have g0 := blkC hg.out 0; have g1 := blkC hg.out 1
  simp only [List.getElem?_toArray, List.getElem?_cons_zero, List.getElem?_cons_succ] at g0 g1
  have htk := T.out.takeM a b (by omega) (by omega)
  go_wp2_with (fail)
  clear g0 g1
  refine htk.mono ?_
  rintro e w4 ⟨L, m, d, rfl, hm, -, -, T4, kp, -, hs4⟩
  have R4 := R.out.kp kp T4.bel hs4 hDt3.out
  have hEt4 : ∃ cs, w4.heap[E]? = some (.cells cs 85 (0, 0)) := by obtain ⟨cs, hh⟩ := hEt.out; exact ⟨cs, kp _ _ _ _ hh (by have := hDE.out; omega) (by decide)⟩
  have he4 := Lib.hid (kp _ _ _ _ he.out heD.out (by decide)); have hg4 := Lib.hid (kp _ _ _ _ hg.out hgD.out (by decide))
  have hm0 : m = 0 := by rw [hm]; unfold takeO; split <;> rfl
  subst hm0
  clear htk kp he hg hm T R hEt hDt3
  obtain ⟨A5, c5, hRt⟩ := R4.tab
  have htk := rtake_any hRt R4.le a b (by omega) (by omega)
  have g0 := blkC hg4.out 0; have g1 := blkC hg4.out 1
  simp only [List.getElem?_toArray, List.getElem?_cons_zero, List.getElem?_cons_succ] at g0 g1
  replace T4 := Lib.hid T4; replace R4 := Lib.hid R4; replace hRt := Lib.hid hRt; replace hEt4 := Lib.hid hEt4
  go_wp2_with (fail)
  clear g0 g1
  refine htk.mono ?_
  rintro e w5 ⟨L2, m2, d2, A6, c6, rfl, hE2, hR6, hc6⟩
  have R5 := R4.out.moved hRt.out hR6 hc6
  have kr := TbR.kr hRt.out hc6
  have T5 := T4.out.kr kr R5.bel hc6.size (fun _ _ => trivial) hEt4.out
  have he5 := Lib.hid (kr _ _ _ _ he4.out heE.out (by decide))
  have x0 := blkC he5.out 0; have x1 := blkC he5.out 1; have x2 := blkC he5.out 2
  simp only [List.getElem?_toArray, List.getElem?_cons_zero, List.getElem?_cons_succ] at x0 x1 x2
  have hsh := shows_any T5 R5 hS.1 hz.1 y
  have hK5 := Lib.hid T5.bel
  have hle5 := Lib.hid T5.le
  replace T5 := Lib.hid T5; replace R5 := Lib.hid R5; replace hE2 := Lib.hid hE2; replace hS := Lib.hid hS
  clear htk kr hc6 hR6 he4 hg4 T4 R4 hRt hEt4
  go_wp2_with (fail)
  clear x0 x1 x2
  refine hsh.mono ?_
  rintro e w6 ⟨rfl, b6⟩
  have hq6 := equal_any L L2 0 d m2 d2 [] _ _ (SL.nil _ _) (SL.keep hE2.out b6) (by omega) (by have h3 := hE2.out.1; rw [← hS.out.2] at h3; have : (takeO (a, b) ([] : List En)).length = 0 := (by unfold takeO; split <;> rfl); omega)
  rw [decide_eq_true (show [] = takeRO (a, b) [] from by rw [← hS.out.2]; unfold takeO; split <;> rfl)] at hq6
  have K6 := Lib.hid (kb.out.trans ((hK5.out.trans (b6.mono hle5.out)).mono kb.out.size))
  clear hsh b6 hE2 hK5 hle5 T5 R5 kb
  go_wp2_with (fail)
  refine hq6.mono ?_
  rintro e w7 ⟨rfl, b7⟩
  have K7 := Lib.hid (K6.out.trans (b7.mono K6.out.size))
  clear hq6 b7 K6
  have kb := K7
  go_wp2_with (fail)
  refine (works_any _).mono ?_
  rintro e w9 ⟨rfl, b9⟩
  have K9 := Lib.hid (kb.out.trans (b9.mono kb.out.size))
  clear b9
  go_wp2_with (fail)
  go_ret
  exact ⟨rfl, K9.out⟩
theorem sizes_walk (size : Int) (y : Ef) (a b : ByteArray) (hsa : a.size ≤ 140737488355328) (hsb : b.size ≤ 140737488355328) (w : World) : Calls Tryd.prog 3 #[.int .i64 size, .agg #[.int .i64 y.1, .int .i64 y.2.1, .int .i64 y.2.2], .agg #[.string a, .string b]] w fun e w' => e = .returned (.bool true) ∧ Below w.heap.size w w' := by
  by_cases h : a.size + b.size ≤ 300
  · by_cases hz : 0 ≤ size ∧ size ≤ 2048
    · exact sizes_good size y a b w h hz
    · exact sizes_bad size y a b w h (by omega)
  · exact sizes_long size y a b w hsa hsb (by omega)
end Go.Proofs.YtkdfhackpmdgfaaDoor
