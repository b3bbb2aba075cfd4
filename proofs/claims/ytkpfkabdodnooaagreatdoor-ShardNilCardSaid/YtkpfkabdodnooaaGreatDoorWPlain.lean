/- The bytes of numbers, and what readers read: plain Lean, no program in sight. -/
import Derived.Test.YtkpfkabdodnooaaGreatDoorFlt
import Derived.Test.YtkpfkabdodnooaaGreatDoorHas
import Derived.Test.YtkpfkabdodnooaaGreatDoorShE
import Derived.Carry
namespace Go.Proofs.YtkpfkabdodnooaaGreatDoor
open Go.RowKit Go.Shelf
set_option linter.unusedSimpArgs false
set_option linter.unusedVariables false
set_option linter.unusedSectionVars false
set_option maxRecDepth 10000
structure Fd where
  g1 : Nat
  l1 : Array Value
  g2 : Nat
  l2 : Array Value
  g3 : Nat
  l3 : Array Value
  g4 : Nat
  l4 : Array Value
  g5 : Nat
  l5 : Array Value
def fdV (f : Fd) : List Value := [.func (.func f.g1) #[] f.l1, .func (.func f.g2) #[] f.l2, .func (.func f.g3) #[] f.l3, .func (.func f.g4) #[] f.l4, .func (.func f.g5) #[] f.l5]
def szCd (c : Cd) : Prop := szG c.r ∧ c.key.size ≤ 140737488355328
structure FdW (w : World) (f : Fd) (ok : Cd → Bool) (clr : Cd → Cd) : Prop where
  e1 : ∀ args w, (callFunc f.g1 args).run Tryz.prog w = .ok (.enter f.g1 args) w
  e5 : ∀ args w, (callFunc f.g5 args).run Tryz.prog w = .ok (.enter f.g5 args) w
  ok : ∀ W, Below w.heap.size w W → ∀ b c, szCd c → W.heap[b]? = some (.cells (cdV c) 33 (0, 0)) → Calls Tryz.prog f.g1 (#[.pointer (some ⟨b, 0, none⟩)] ++ f.l1) W fun e W' => e = .returned (.bool (ok c)) ∧ Below W.heap.size W W'
  clr : ∀ W, Below w.heap.size w W → ∀ b c, W.heap[b]? = some (.cells (cdV c) 33 (0, 0)) → Calls Tryz.prog f.g5 (#[.pointer (some ⟨b, 0, none⟩)] ++ f.l5) W fun e W' => e = .returned (.tuple #[]) ∧ CdTo b (clr c) W W'
theorem FdW.below {w W : World} {f : Fd} {ok : Cd → Bool} {clr : Cd → Cd} (h : FdW w f ok clr) (hb : Below w.heap.size w W) : FdW W f ok clr :=
  ⟨h.e1, h.e5, fun X hx => h.ok X (hb.trans (hx.mono hb.size)), fun X hx => h.clr X (hb.trans (hx.mono hb.size))⟩
theorem fd_eff (w : World) : Calls Tryz.prog 129 #[] w fun e w' => ∃ f, e = .returned (.agg (fdV f).toArray) ∧ Below w.heap.size w w' ∧ FdW w' f (fun c => okE c.e) (fun c => { c with e := (0, 0, 0) }) := by
  refine (mk_eff w).mono ?_
  rintro e w' ⟨rfl, hb⟩
  exact ⟨⟨182, #[], 183, #[], 184, #[], 186, #[], 188, #[]⟩, rfl, hb, ⟨(enters_of Tryz.func182 (by kernel_rfl) rfl), (enters_of Tryz.func188 (by kernel_rfl) rfl), (fun W _ b c hs h => eff_ok h), (fun W _ b c h => eff_clear h)⟩⟩
theorem fd_delta (w : World) : Calls Tryz.prog 131 #[] w fun e w' => ∃ f, e = .returned (.agg (fdV f).toArray) ∧ Below w.heap.size w w' ∧ FdW w' f (fun c => okD c.dl) (fun c => { c with dl := 0 }) := by
  refine (mk_delta w).mono ?_
  rintro e w' ⟨rfl, hb⟩
  exact ⟨⟨192, #[], 193, #[], 194, #[], 195, #[], 197, #[]⟩, rfl, hb, ⟨(enters_of Tryz.func192 (by kernel_rfl) rfl), (enters_of Tryz.func197 (by kernel_rfl) rfl), (fun W _ b c hs h => delta_ok h), (fun W _ b c h => delta_clear h)⟩⟩
theorem fd_range (w : World) : Calls Tryz.prog 134 #[] w fun e w' => ∃ f, e = .returned (.agg (fdV f).toArray) ∧ Below w.heap.size w w' ∧ FdW w' f (fun c => okG c.r) (fun c => { c with r := (noText, noText) }) := by
  refine (mk_range w).mono ?_
  rintro e w' ⟨rfl, hb⟩
  exact ⟨⟨201, #[], 202, #[], 203, #[], 204, #[], 206, #[]⟩, rfl, hb, ⟨(enters_of Tryz.func201 (by kernel_rfl) rfl), (enters_of Tryz.func206 (by kernel_rfl) rfl), (fun W _ b c hs h => range_ok h hs.1), (fun W _ b c h => range_clear h)⟩⟩
theorem fd_key (w : World) : Calls Tryz.prog 130 #[] w fun e w' => ∃ f, e = .returned (.agg (fdV f).toArray) ∧ Below w.heap.size w w' ∧ FdW w' f (fun c => nameB c.key) (fun c => { c with key := noText }) := by
  go_enter Tryz.func130, Tryz.ntmps130
  go_wp2_with (fail)
  refine (text_any 190 60 191 _).mono ?_
  rintro e w2 ⟨rfl, b2, c0, c1⟩
  have k2 := Lib.hid (((Below.refl _ w).alloc (Nat.le_refl _) _).trans (b2.mono (by simp)))
  have e1 := (b2.block w.heap.size (by simp)).trans (hpNew _ _)
  have s0 := blkC e1 0
  have s1 := blkC e1 1
  have s2 := blkC e1 2
  have s3 := blkC e1 3
  have s4 := blkC e1 4
  have sf := blkF e1; have sx := blkX e1
  simp only [List.getElem?_toArray, List.getElem?_cons_zero, List.getElem?_cons_succ] at s0 s1 s2 s3 s4
  simp only [World.size_alloc] at c0 c1 ⊢
  replace c0 := Lib.hid c0; replace c1 := Lib.hid c1; replace e1 := Lib.hid e1
  clear b2
  go_wp2_with (fail)
  refine bodyPost_ret (by simp [results, Tryz.results130, go_sem, *]; try with_reducible rfl) rfl ?_
  obtain ⟨W, hW⟩ : ∃ W, W = (((((w2.setCell ⟨w.heap.size, 0, none⟩ (.func (.func 264) #[] #[.pointer (some ⟨(w.heap.size + 1) + 1, 0, none⟩), .pointer (some ⟨(w.heap.size + 1), 0, none⟩)])).setCell ⟨w.heap.size, 1, none⟩ (.func (.func 265) #[] #[.pointer (some ⟨(w.heap.size + 1), 0, none⟩)])).setCell ⟨w.heap.size, 2, none⟩ (.func (.func 266) #[] #[.pointer (some ⟨(w.heap.size + 1), 0, none⟩)])).setCell ⟨w.heap.size, 3, none⟩ (.func (.func 267) #[] #[.pointer (some ⟨(w.heap.size + 1) + 1 + 1, 0, none⟩), .pointer (some ⟨(w.heap.size + 1), 0, none⟩)])).setCell ⟨w.heap.size, 4, none⟩ (.func (.func 268) #[] #[.pointer (some ⟨(w.heap.size + 1), 0, none⟩)])) := ⟨_, rfl⟩
  rw [← hW]
  have kW : Below w.heap.size w W := by rw [hW]; exact (by repeat (first | exact k2.out | refine Below.setCell ?_ (by exact Nat.le_refl _) _))
  have d0 := c0.out
  have x0 : W.heap[w.heap.size + 1]? = some (.cells #[.func (.func 190) #[] #[]] 269 (0, 0)) := by rw [hW]; (iterate 5 (refine (hpFar (by simp only; omega)).trans ?_)); exact d0
  clear d0
  have d1 := c1.out
  have x1 : W.heap[w.heap.size + 1 + 1]? = some (.cells #[.func (.func 60) #[] #[]] 55 (0, 0)) := by rw [hW]; (iterate 5 (refine (hpFar (by simp only; omega)).trans ?_)); exact d1
  clear d1
  refine ⟨⟨264, #[.pointer (some ⟨(w.heap.size + 1) + 1, 0, none⟩), .pointer (some ⟨(w.heap.size + 1), 0, none⟩)], 265, #[.pointer (some ⟨(w.heap.size + 1), 0, none⟩)], 266, #[.pointer (some ⟨(w.heap.size + 1), 0, none⟩)], 267, #[.pointer (some ⟨(w.heap.size + 1) + 1 + 1, 0, none⟩), .pointer (some ⟨(w.heap.size + 1), 0, none⟩)], 268, #[.pointer (some ⟨(w.heap.size + 1), 0, none⟩)]⟩, rfl, kW, ⟨(enters_of Tryz.func264 (by kernel_rfl) rfl), (enters_of Tryz.func268 (by kernel_rfl) rfl), ?_, ?_⟩⟩
  · intro W hb b c hs h
    have y0 := (hb.block _ (blkX x0)).trans x0; have y1 := (hb.block _ (blkX x1)).trans x1
    have hbl := blkX h
    exact text1 (enters_of Tryz.func190 (by kernel_rfl) rfl) (enters_of Tryz.func60 (by kernel_rfl) rfl) h (j := 6) rfl y1 y0 (fun X => at_key b X) (fun X => name_any c.key hs.2 X)
  · intro W hb b c h
    have y0 := (hb.block _ (blkX x0)).trans x0
    refine (text5 (enters_of Tryz.func190 (by kernel_rfl) rfl) h (j := 6) rfl y0 (fun X => at_key b X)).mono ?_
    rintro e W' ⟨rfl, rfl⟩
    exact ⟨rfl, hpSet (i := 6) (v := .string ⟨#[]⟩) h, chg_set⟩
theorem fd_data (w : World) : Calls Tryz.prog 135 #[] w fun e w' => ∃ f, e = .returned (.agg (fdV f).toArray) ∧ Below w.heap.size w w' ∧ FdW w' f (fun c => decide (c.dat.size ≤ 65536)) (fun c => { c with dat := noText }) := by
  go_enter Tryz.func135, Tryz.ntmps135
  go_wp2_with (fail)
  refine (text_any 207 208 209 _).mono ?_
  rintro e w2 ⟨rfl, b2, c0, c1⟩
  have k2 := Lib.hid (((Below.refl _ w).alloc (Nat.le_refl _) _).trans (b2.mono (by simp)))
  have e1 := (b2.block w.heap.size (by simp)).trans (hpNew _ _)
  have s0 := blkC e1 0
  have s1 := blkC e1 1
  have s2 := blkC e1 2
  have s3 := blkC e1 3
  have s4 := blkC e1 4
  have sf := blkF e1; have sx := blkX e1
  simp only [List.getElem?_toArray, List.getElem?_cons_zero, List.getElem?_cons_succ] at s0 s1 s2 s3 s4
  simp only [World.size_alloc] at c0 c1 ⊢
  replace c0 := Lib.hid c0; replace c1 := Lib.hid c1; replace e1 := Lib.hid e1
  clear b2
  go_wp2_with (fail)
  refine bodyPost_ret (by simp [results, Tryz.results135, go_sem, *]; try with_reducible rfl) rfl ?_
  obtain ⟨W, hW⟩ : ∃ W, W = (((((w2.setCell ⟨w.heap.size, 0, none⟩ (.func (.func 264) #[] #[.pointer (some ⟨(w.heap.size + 1) + 1, 0, none⟩), .pointer (some ⟨(w.heap.size + 1), 0, none⟩)])).setCell ⟨w.heap.size, 1, none⟩ (.func (.func 265) #[] #[.pointer (some ⟨(w.heap.size + 1), 0, none⟩)])).setCell ⟨w.heap.size, 2, none⟩ (.func (.func 266) #[] #[.pointer (some ⟨(w.heap.size + 1), 0, none⟩)])).setCell ⟨w.heap.size, 3, none⟩ (.func (.func 267) #[] #[.pointer (some ⟨(w.heap.size + 1) + 1 + 1, 0, none⟩), .pointer (some ⟨(w.heap.size + 1), 0, none⟩)])).setCell ⟨w.heap.size, 4, none⟩ (.func (.func 268) #[] #[.pointer (some ⟨(w.heap.size + 1), 0, none⟩)])) := ⟨_, rfl⟩
  rw [← hW]
  have kW : Below w.heap.size w W := by rw [hW]; exact (by repeat (first | exact k2.out | refine Below.setCell ?_ (by exact Nat.le_refl _) _))
  have d0 := c0.out
  have x0 : W.heap[w.heap.size + 1]? = some (.cells #[.func (.func 207) #[] #[]] 269 (0, 0)) := by rw [hW]; (iterate 5 (refine (hpFar (by simp only; omega)).trans ?_)); exact d0
  clear d0
  have d1 := c1.out
  have x1 : W.heap[w.heap.size + 1 + 1]? = some (.cells #[.func (.func 208) #[] #[]] 55 (0, 0)) := by rw [hW]; (iterate 5 (refine (hpFar (by simp only; omega)).trans ?_)); exact d1
  clear d1
  refine ⟨⟨264, #[.pointer (some ⟨(w.heap.size + 1) + 1, 0, none⟩), .pointer (some ⟨(w.heap.size + 1), 0, none⟩)], 265, #[.pointer (some ⟨(w.heap.size + 1), 0, none⟩)], 266, #[.pointer (some ⟨(w.heap.size + 1), 0, none⟩)], 267, #[.pointer (some ⟨(w.heap.size + 1) + 1 + 1, 0, none⟩), .pointer (some ⟨(w.heap.size + 1), 0, none⟩)], 268, #[.pointer (some ⟨(w.heap.size + 1), 0, none⟩)]⟩, rfl, kW, ⟨(enters_of Tryz.func264 (by kernel_rfl) rfl), (enters_of Tryz.func268 (by kernel_rfl) rfl), ?_, ?_⟩⟩
  · intro W hb b c hs h
    have y0 := (hb.block _ (blkX x0)).trans x0; have y1 := (hb.block _ (blkX x1)).trans x1
    have hbl := blkX h
    exact text1 (enters_of Tryz.func207 (by kernel_rfl) rfl) (enters_of Tryz.func208 (by kernel_rfl) rfl) h (j := 23) rfl y1 y0 (fun X => at_data b X) (fun X => (data_ok c.dat X).mono (by rintro e W' ⟨rfl, rfl⟩; exact ⟨rfl, Below.refl _ _⟩))
  · intro W hb b c h
    have y0 := (hb.block _ (blkX x0)).trans x0
    refine (text5 (enters_of Tryz.func207 (by kernel_rfl) rfl) h (j := 23) rfl y0 (fun X => at_data b X)).mono ?_
    rintro e W' ⟨rfl, rfl⟩
    exact ⟨rfl, hpSet (i := 23) (v := .string ⟨#[]⟩) h, chg_set⟩
theorem fd_call (w : World) : Calls Tryz.prog 132 #[] w fun e w' => ∃ f, e = .returned (.agg (fdV f).toArray) ∧ Below w.heap.size w w' ∧ FdW w' f (fun c => decide (0 ≤ c.call) && decide (c.call ≤ 2147483648)) (fun c => { c with call := 0 }) := by
  go_enter Tryz.func132, Tryz.ntmps132
  go_wp2_with (fail)
  refine (number_any 199 0 2147483648 _).mono ?_
  rintro e w2 ⟨rfl, b2, c0, c1, c2⟩
  have k2 := Lib.hid (((Below.refl _ w).alloc (Nat.le_refl _) _).trans (b2.mono (by simp)))
  have e1 := (b2.block w.heap.size (by simp)).trans (hpNew _ _)
  have s0 := blkC e1 0
  have s1 := blkC e1 1
  have s2 := blkC e1 2
  have s3 := blkC e1 3
  have s4 := blkC e1 4
  have sf := blkF e1; have sx := blkX e1
  simp only [List.getElem?_toArray, List.getElem?_cons_zero, List.getElem?_cons_succ] at s0 s1 s2 s3 s4
  simp only [World.size_alloc] at c0 c1 c2 ⊢
  replace c0 := Lib.hid c0; replace c1 := Lib.hid c1; replace e1 := Lib.hid e1; replace c2 := Lib.hid c2
  clear b2
  go_wp2_with (fail)
  refine bodyPost_ret (by simp [results, Tryz.results132, go_sem, *]; try with_reducible rfl) rfl ?_
  obtain ⟨W, hW⟩ : ∃ W, W = (((((w2.setCell ⟨w.heap.size, 0, none⟩ (.func (.func 270) #[] #[.pointer (some ⟨(w.heap.size + 1), 0, none⟩), .pointer (some ⟨(w.heap.size + 1) + 1, 0, none⟩), .pointer (some ⟨(w.heap.size + 1) + 1 + 1, 0, none⟩)])).setCell ⟨w.heap.size, 1, none⟩ (.func (.func 272) #[] #[.pointer (some ⟨(w.heap.size + 1), 0, none⟩)])).setCell ⟨w.heap.size, 2, none⟩ (.func (.func 273) #[] #[.pointer (some ⟨(w.heap.size + 1) + 1 + 1, 0, none⟩), .pointer (some ⟨(w.heap.size + 1), 0, none⟩)])).setCell ⟨w.heap.size, 3, none⟩ (.func (.func 274) #[] #[.pointer (some ⟨(w.heap.size + 1), 0, none⟩)])).setCell ⟨w.heap.size, 4, none⟩ (.func (.func 275) #[] #[.pointer (some ⟨(w.heap.size + 1), 0, none⟩)])) := ⟨_, rfl⟩
  rw [← hW]
  have kW : Below w.heap.size w W := by rw [hW]; exact (by repeat (first | exact k2.out | refine Below.setCell ?_ (by exact Nat.le_refl _) _))
  have d0 := c0.out
  have x0 : W.heap[w.heap.size + 1]? = some (.cells #[.func (.func 199) #[] #[]] 274 (0, 0)) := by rw [hW]; (iterate 5 (refine (hpFar (by simp only; omega)).trans ?_)); exact d0
  clear d0
  have d1 := c1.out
  have x1 : W.heap[w.heap.size + 1 + 1]? = some (.cells #[.int .i64 0] 3 (0, 0)) := by rw [hW]; (iterate 5 (refine (hpFar (by simp only; omega)).trans ?_)); exact d1
  clear d1
  have d2 := c2.out
  have x2 : W.heap[w.heap.size + 1 + 1 + 1]? = some (.cells #[.int .i64 2147483648] 3 (0, 0)) := by rw [hW]; (iterate 5 (refine (hpFar (by simp only; omega)).trans ?_)); exact d2
  clear d2
  refine ⟨⟨270, #[.pointer (some ⟨(w.heap.size + 1), 0, none⟩), .pointer (some ⟨(w.heap.size + 1) + 1, 0, none⟩), .pointer (some ⟨(w.heap.size + 1) + 1 + 1, 0, none⟩)], 272, #[.pointer (some ⟨(w.heap.size + 1), 0, none⟩)], 273, #[.pointer (some ⟨(w.heap.size + 1) + 1 + 1, 0, none⟩), .pointer (some ⟨(w.heap.size + 1), 0, none⟩)], 274, #[.pointer (some ⟨(w.heap.size + 1), 0, none⟩)], 275, #[.pointer (some ⟨(w.heap.size + 1), 0, none⟩)]⟩, rfl, kW, ⟨(enters_of Tryz.func270 (by kernel_rfl) rfl), (enters_of Tryz.func275 (by kernel_rfl) rfl), ?_, ?_⟩⟩
  · intro W hb b c hs h
    have y0 := (hb.block _ (blkX x0)).trans x0; have y1 := (hb.block _ (blkX x1)).trans x1; have y2 := (hb.block _ (blkX x2)).trans x2
    have hbl := blkX h
    exact number1 (enters_of Tryz.func199 (by kernel_rfl) rfl) h (j := 1) rfl y0 y1 y2 (fun X => at_call b X)
  · intro W hb b c h
    have y0 := (hb.block _ (blkX x0)).trans x0
    refine (number5 (enters_of Tryz.func199 (by kernel_rfl) rfl) h (j := 1) rfl y0 (fun X => at_call b X)).mono ?_
    rintro e W' ⟨rfl, rfl⟩
    exact ⟨rfl, hpSet (i := 1) (v := .int .i64 0) h, chg_set⟩
theorem fd_move (w : World) : Calls Tryz.prog 133 #[] w fun e w' => ∃ f, e = .returned (.agg (fdV f).toArray) ∧ Below w.heap.size w w' ∧ FdW w' f (fun c => decide (1 ≤ c.mv) && decide (c.mv ≤ 64)) (fun c => { c with mv := 0 }) := by
  go_enter Tryz.func133, Tryz.ntmps133
  go_wp2_with (fail)
  refine (number_any 200 1 64 _).mono ?_
  rintro e w2 ⟨rfl, b2, c0, c1, c2⟩
  have k2 := Lib.hid (((Below.refl _ w).alloc (Nat.le_refl _) _).trans (b2.mono (by simp)))
  have e1 := (b2.block w.heap.size (by simp)).trans (hpNew _ _)
  have s0 := blkC e1 0
  have s1 := blkC e1 1
  have s2 := blkC e1 2
  have s3 := blkC e1 3
  have s4 := blkC e1 4
  have sf := blkF e1; have sx := blkX e1
  simp only [List.getElem?_toArray, List.getElem?_cons_zero, List.getElem?_cons_succ] at s0 s1 s2 s3 s4
  simp only [World.size_alloc] at c0 c1 c2 ⊢
  replace c0 := Lib.hid c0; replace c1 := Lib.hid c1; replace e1 := Lib.hid e1; replace c2 := Lib.hid c2
  clear b2
  go_wp2_with (fail)
  refine bodyPost_ret (by simp [results, Tryz.results133, go_sem, *]; try with_reducible rfl) rfl ?_
  obtain ⟨W, hW⟩ : ∃ W, W = (((((w2.setCell ⟨w.heap.size, 0, none⟩ (.func (.func 270) #[] #[.pointer (some ⟨(w.heap.size + 1), 0, none⟩), .pointer (some ⟨(w.heap.size + 1) + 1, 0, none⟩), .pointer (some ⟨(w.heap.size + 1) + 1 + 1, 0, none⟩)])).setCell ⟨w.heap.size, 1, none⟩ (.func (.func 272) #[] #[.pointer (some ⟨(w.heap.size + 1), 0, none⟩)])).setCell ⟨w.heap.size, 2, none⟩ (.func (.func 273) #[] #[.pointer (some ⟨(w.heap.size + 1) + 1 + 1, 0, none⟩), .pointer (some ⟨(w.heap.size + 1), 0, none⟩)])).setCell ⟨w.heap.size, 3, none⟩ (.func (.func 274) #[] #[.pointer (some ⟨(w.heap.size + 1), 0, none⟩)])).setCell ⟨w.heap.size, 4, none⟩ (.func (.func 275) #[] #[.pointer (some ⟨(w.heap.size + 1), 0, none⟩)])) := ⟨_, rfl⟩
  rw [← hW]
  have kW : Below w.heap.size w W := by rw [hW]; exact (by repeat (first | exact k2.out | refine Below.setCell ?_ (by exact Nat.le_refl _) _))
  have d0 := c0.out
  have x0 : W.heap[w.heap.size + 1]? = some (.cells #[.func (.func 200) #[] #[]] 274 (0, 0)) := by rw [hW]; (iterate 5 (refine (hpFar (by simp only; omega)).trans ?_)); exact d0
  clear d0
  have d1 := c1.out
  have x1 : W.heap[w.heap.size + 1 + 1]? = some (.cells #[.int .i64 1] 3 (0, 0)) := by rw [hW]; (iterate 5 (refine (hpFar (by simp only; omega)).trans ?_)); exact d1
  clear d1
  have d2 := c2.out
  have x2 : W.heap[w.heap.size + 1 + 1 + 1]? = some (.cells #[.int .i64 64] 3 (0, 0)) := by rw [hW]; (iterate 5 (refine (hpFar (by simp only; omega)).trans ?_)); exact d2
  clear d2
  refine ⟨⟨270, #[.pointer (some ⟨(w.heap.size + 1), 0, none⟩), .pointer (some ⟨(w.heap.size + 1) + 1, 0, none⟩), .pointer (some ⟨(w.heap.size + 1) + 1 + 1, 0, none⟩)], 272, #[.pointer (some ⟨(w.heap.size + 1), 0, none⟩)], 273, #[.pointer (some ⟨(w.heap.size + 1) + 1 + 1, 0, none⟩), .pointer (some ⟨(w.heap.size + 1), 0, none⟩)], 274, #[.pointer (some ⟨(w.heap.size + 1), 0, none⟩)], 275, #[.pointer (some ⟨(w.heap.size + 1), 0, none⟩)]⟩, rfl, kW, ⟨(enters_of Tryz.func270 (by kernel_rfl) rfl), (enters_of Tryz.func275 (by kernel_rfl) rfl), ?_, ?_⟩⟩
  · intro W hb b c hs h
    have y0 := (hb.block _ (blkX x0)).trans x0; have y1 := (hb.block _ (blkX x1)).trans x1; have y2 := (hb.block _ (blkX x2)).trans x2
    have hbl := blkX h
    exact number1 (enters_of Tryz.func200 (by kernel_rfl) rfl) h (j := 8) rfl y0 y1 y2 (fun X => at_move b X)
  · intro W hb b c h
    have y0 := (hb.block _ (blkX x0)).trans x0
    refine (number5 (enters_of Tryz.func200 (by kernel_rfl) rfl) h (j := 8) rfl y0 (fun X => at_move b X)).mono ?_
    rintro e W' ⟨rfl, rfl⟩
    exact ⟨rfl, hpSet (i := 8) (v := .int .i64 0) h, chg_set⟩
end Go.Proofs.YtkpfkabdodnooaaGreatDoor

namespace Go.Proofs.YtkpfkabdodnooaaGreatDoor
open Go.RowKit Go.Shelf
set_option linter.unusedSimpArgs false
set_option linter.unusedVariables false
set_option linter.unusedSectionVars false
set_option maxRecDepth 10000
def kindF (k : Int) : List ((Cd → Bool) × (Cd → Cd)) :=
  if k = 1 then [(fun c => okE c.e, fun c => { c with e := (0, 0, 0) }), (fun c => nameB c.key, fun c => { c with key := noText }), (fun c => okD c.dl, fun c => { c with dl := 0 })] else
  if k = 2 then [(fun c => decide (0 ≤ c.call) && decide (c.call ≤ 2147483648), fun c => { c with call := 0 }), (fun c => nameB c.key, fun c => { c with key := noText })] else
  if k = 3 then [(fun c => decide (1 ≤ c.mv) && decide (c.mv ≤ 64), fun c => { c with mv := 0 }), (fun c => okG c.r, fun c => { c with r := (noText, noText) })] else
  if k = 4 then [(fun c => decide (1 ≤ c.mv) && decide (c.mv ≤ 64), fun c => { c with mv := 0 }), (fun c => okG c.r, fun c => { c with r := (noText, noText) }), (fun c => decide (c.dat.size ≤ 65536), fun c => { c with dat := noText })] else
  []
structure FdsW (w : World) (A : Option Addr) (n : Nat) (fs : List ((Cd → Bool) × (Cd → Cd))) : Prop where
  ex : ∃ fl : List Fd, SL fdV 5 w A n fl ∧ fl.length = fs.length ∧ ∀ (i : Nat) (f : Fd) (q : (Cd → Bool) × (Cd → Cd)), fl[i]? = some f → fs[i]? = some q → FdW w f q.1 q.2
theorem FdsW.nil (w : World) : FdsW w none 0 [] := ⟨[], SL.nil _ _, rfl, fun i f q h => by simp at h⟩
theorem fdV_len (f : Fd) : (fdV f).length = 5 := rfl
theorem SL.row5 {W : World} {g : Nat} {T : TypeId} {fr : Nat × Nat} {l : List Fd} {n : Nat} (h : W.heap[g]? = some (.cells (flat fdV l).toArray T fr)) (hn : l.length = n) : SL fdV 5 W (some ⟨g, 0, none⟩) n l :=
  ⟨hn, fun _ => ⟨g, 0, rfl, blkX h, fun i x hx j u hu => by
    have hj : j < 5 := by rw [← fdV_len x]; exact (List.getElem?_eq_some_iff.1 hu).1
    refine (blkC h (0 + i * 5 + j)).trans ?_
    rw [Nat.zero_add, List.getElem?_toArray, flat_get fdV_len l i x j hx hj] <;> exact hu⟩⟩
theorem fields0 (w : World) : Calls Tryz.prog 81 #[.int .i64 0] w fun e w' => ∃ s A n c, e = .returned (.tuple #[.string s, .slice A n c, .bool true]) ∧ FdsW w' A n (kindF 0) ∧ Below w.heap.size w w' := by
  go_enter Tryz.func81, Tryz.ntmps81
  go_wp2_with (fail)
  refine bodyPost_ret (by simp [results, Tryz.results81, go_sem, *]; try with_reducible rfl) rfl ?_
  exact ⟨_, _, _, _, rfl, FdsW.nil _, Below.refl _ _⟩
theorem fields1 (w : World) : Calls Tryz.prog 81 #[.int .i64 1] w fun e w' => ∃ s A n c, e = .returned (.tuple #[.string s, .slice A n c, .bool true]) ∧ FdsW w' A n (kindF 1) ∧ Below w.heap.size w w' := by
  go_enter Tryz.func81, Tryz.ntmps81
  go_wp2_with (fail)
  refine (fd_eff _).mono ?_
  rintro e w1 ⟨⟨f1a, f1b, f1c, f1d, f1e, f1f, f1g, f1h, f1i, f1j⟩, rfl, b1, d1⟩
  simp only [fdV]
  have k1 := b1
  skip
  go_wp2_with (fail)
  refine (fd_key _).mono ?_
  rintro e w2 ⟨⟨f2a, f2b, f2c, f2d, f2e, f2f, f2g, f2h, f2i, f2j⟩, rfl, b2, d2⟩
  simp only [fdV]
  have k2 := k1.trans (b2.mono k1.size)
  have d1_2 := (d1).below b2
  skip
  go_wp2_with (fail)
  refine (fd_delta _).mono ?_
  rintro e w3 ⟨⟨f3a, f3b, f3c, f3d, f3e, f3f, f3g, f3h, f3i, f3j⟩, rfl, b3, d3⟩
  simp only [fdV]
  have k3 := k2.trans (b3.mono k2.size)
  have d1_3 := (d1_2).below b3
  have d2_3 := (d2).below b3
  skip
  skip
  replace d1_3 := Lib.hid d1_3
  replace d2_3 := Lib.hid d2_3
  replace d3 := Lib.hid d3
  replace k3 := Lib.hid k3
  clear b1 b2 b3 d1 d2 k1 k2 d1_2
  go_wp2_with (fail)
  refine bodyPost_ret (by simp [results, Tryz.results81, go_sem, *]; try with_reducible rfl) rfl ?_
  have bb := (Below.refl w3.heap.size w3).alloc (Nat.le_refl _) (.cells #[.func (.func f1a) #[] f1b, .func (.func f1c) #[] f1d, .func (.func f1e) #[] f1f, .func (.func f1g) #[] f1h, .func (.func f1i) #[] f1j, .func (.func f2a) #[] f2b, .func (.func f2c) #[] f2d, .func (.func f2e) #[] f2f, .func (.func f2g) #[] f2h, .func (.func f2i) #[] f2j, .func (.func f3a) #[] f3b, .func (.func f3c) #[] f3d, .func (.func f3e) #[] f3f, .func (.func f3g) #[] f3h, .func (.func f3i) #[] f3j] 157)
  refine ⟨_, _, _, _, rfl, ⟨[⟨f1a, f1b, f1c, f1d, f1e, f1f, f1g, f1h, f1i, f1j⟩, ⟨f2a, f2b, f2c, f2d, f2e, f2f, f2g, f2h, f2i, f2j⟩, ⟨f3a, f3b, f3c, f3d, f3e, f3f, f3g, f3h, f3i, f3j⟩], SL.row5 (hpNew _ _) rfl, rfl, ?_⟩, k3.out.alloc k3.out.size _⟩
  intro i f q hf hq
  have kq : kindF 1 = [(fun c => okE c.e, fun c => { c with e := (0, 0, 0) }), (fun c => nameB c.key, fun c => { c with key := noText }), (fun c => okD c.dl, fun c => { c with dl := 0 })] := rfl
  rw [kq] at hq
  clear kq
  rcases i with _ | i
  · simp only [List.getElem?_cons_zero, List.getElem?_cons_succ, Option.some.injEq] at hf hq
    subst hf; subst hq
    exact d1_3.out.below bb
  rcases i with _ | i
  · simp only [List.getElem?_cons_zero, List.getElem?_cons_succ, Option.some.injEq] at hf hq
    subst hf; subst hq
    exact d2_3.out.below bb
  rcases i with _ | i
  · simp only [List.getElem?_cons_zero, List.getElem?_cons_succ, Option.some.injEq] at hf hq
    subst hf; subst hq
    exact d3.out.below bb
  simp at hf
theorem fields2 (w : World) : Calls Tryz.prog 81 #[.int .i64 2] w fun e w' => ∃ s A n c, e = .returned (.tuple #[.string s, .slice A n c, .bool true]) ∧ FdsW w' A n (kindF 2) ∧ Below w.heap.size w w' := by
  go_enter Tryz.func81, Tryz.ntmps81
  go_wp2_with (fail)
  refine (fd_call _).mono ?_
  rintro e w1 ⟨⟨f1a, f1b, f1c, f1d, f1e, f1f, f1g, f1h, f1i, f1j⟩, rfl, b1, d1⟩
  simp only [fdV]
  have k1 := b1
  skip
  go_wp2_with (fail)
  refine (fd_key _).mono ?_
  rintro e w2 ⟨⟨f2a, f2b, f2c, f2d, f2e, f2f, f2g, f2h, f2i, f2j⟩, rfl, b2, d2⟩
  simp only [fdV]
  have k2 := k1.trans (b2.mono k1.size)
  have d1_2 := (d1).below b2
  skip
  skip
  replace d1_2 := Lib.hid d1_2
  replace d2 := Lib.hid d2
  replace k2 := Lib.hid k2
  clear b1 b2 d1 k1
  go_wp2_with (fail)
  refine bodyPost_ret (by simp [results, Tryz.results81, go_sem, *]; try with_reducible rfl) rfl ?_
  have bb := (Below.refl w2.heap.size w2).alloc (Nat.le_refl _) (.cells #[.func (.func f1a) #[] f1b, .func (.func f1c) #[] f1d, .func (.func f1e) #[] f1f, .func (.func f1g) #[] f1h, .func (.func f1i) #[] f1j, .func (.func f2a) #[] f2b, .func (.func f2c) #[] f2d, .func (.func f2e) #[] f2f, .func (.func f2g) #[] f2h, .func (.func f2i) #[] f2j] 157)
  refine ⟨_, _, _, _, rfl, ⟨[⟨f1a, f1b, f1c, f1d, f1e, f1f, f1g, f1h, f1i, f1j⟩, ⟨f2a, f2b, f2c, f2d, f2e, f2f, f2g, f2h, f2i, f2j⟩], SL.row5 (hpNew _ _) rfl, rfl, ?_⟩, k2.out.alloc k2.out.size _⟩
  intro i f q hf hq
  have kq : kindF 2 = [(fun c => decide (0 ≤ c.call) && decide (c.call ≤ 2147483648), fun c => { c with call := 0 }), (fun c => nameB c.key, fun c => { c with key := noText })] := rfl
  rw [kq] at hq
  clear kq
  rcases i with _ | i
  · simp only [List.getElem?_cons_zero, List.getElem?_cons_succ, Option.some.injEq] at hf hq
    subst hf; subst hq
    exact d1_2.out.below bb
  rcases i with _ | i
  · simp only [List.getElem?_cons_zero, List.getElem?_cons_succ, Option.some.injEq] at hf hq
    subst hf; subst hq
    exact d2.out.below bb
  simp at hf
theorem fields3 (w : World) : Calls Tryz.prog 81 #[.int .i64 3] w fun e w' => ∃ s A n c, e = .returned (.tuple #[.string s, .slice A n c, .bool true]) ∧ FdsW w' A n (kindF 3) ∧ Below w.heap.size w w' := by
  go_enter Tryz.func81, Tryz.ntmps81
  go_wp2_with (fail)
  refine (fd_move _).mono ?_
  rintro e w1 ⟨⟨f1a, f1b, f1c, f1d, f1e, f1f, f1g, f1h, f1i, f1j⟩, rfl, b1, d1⟩
  simp only [fdV]
  have k1 := b1
  skip
  go_wp2_with (fail)
  refine (fd_range _).mono ?_
  rintro e w2 ⟨⟨f2a, f2b, f2c, f2d, f2e, f2f, f2g, f2h, f2i, f2j⟩, rfl, b2, d2⟩
  simp only [fdV]
  have k2 := k1.trans (b2.mono k1.size)
  have d1_2 := (d1).below b2
  skip
  skip
  replace d1_2 := Lib.hid d1_2
  replace d2 := Lib.hid d2
  replace k2 := Lib.hid k2
  clear b1 b2 d1 k1
  go_wp2_with (fail)
  refine bodyPost_ret (by simp [results, Tryz.results81, go_sem, *]; try with_reducible rfl) rfl ?_
  have bb := (Below.refl w2.heap.size w2).alloc (Nat.le_refl _) (.cells #[.func (.func f1a) #[] f1b, .func (.func f1c) #[] f1d, .func (.func f1e) #[] f1f, .func (.func f1g) #[] f1h, .func (.func f1i) #[] f1j, .func (.func f2a) #[] f2b, .func (.func f2c) #[] f2d, .func (.func f2e) #[] f2f, .func (.func f2g) #[] f2h, .func (.func f2i) #[] f2j] 157)
  refine ⟨_, _, _, _, rfl, ⟨[⟨f1a, f1b, f1c, f1d, f1e, f1f, f1g, f1h, f1i, f1j⟩, ⟨f2a, f2b, f2c, f2d, f2e, f2f, f2g, f2h, f2i, f2j⟩], SL.row5 (hpNew _ _) rfl, rfl, ?_⟩, k2.out.alloc k2.out.size _⟩
  intro i f q hf hq
  have kq : kindF 3 = [(fun c => decide (1 ≤ c.mv) && decide (c.mv ≤ 64), fun c => { c with mv := 0 }), (fun c => okG c.r, fun c => { c with r := (noText, noText) })] := rfl
  rw [kq] at hq
  clear kq
  rcases i with _ | i
  · simp only [List.getElem?_cons_zero, List.getElem?_cons_succ, Option.some.injEq] at hf hq
    subst hf; subst hq
    exact d1_2.out.below bb
  rcases i with _ | i
  · simp only [List.getElem?_cons_zero, List.getElem?_cons_succ, Option.some.injEq] at hf hq
    subst hf; subst hq
    exact d2.out.below bb
  simp at hf
theorem fields4 (w : World) : Calls Tryz.prog 81 #[.int .i64 4] w fun e w' => ∃ s A n c, e = .returned (.tuple #[.string s, .slice A n c, .bool true]) ∧ FdsW w' A n (kindF 4) ∧ Below w.heap.size w w' := by
  go_enter Tryz.func81, Tryz.ntmps81
  go_wp2_with (fail)
  refine (fd_move _).mono ?_
  rintro e w1 ⟨⟨f1a, f1b, f1c, f1d, f1e, f1f, f1g, f1h, f1i, f1j⟩, rfl, b1, d1⟩
  simp only [fdV]
  have k1 := b1
  skip
  go_wp2_with (fail)
  refine (fd_range _).mono ?_
  rintro e w2 ⟨⟨f2a, f2b, f2c, f2d, f2e, f2f, f2g, f2h, f2i, f2j⟩, rfl, b2, d2⟩
  simp only [fdV]
  have k2 := k1.trans (b2.mono k1.size)
  have d1_2 := (d1).below b2
  skip
  go_wp2_with (fail)
  refine (fd_data _).mono ?_
  rintro e w3 ⟨⟨f3a, f3b, f3c, f3d, f3e, f3f, f3g, f3h, f3i, f3j⟩, rfl, b3, d3⟩
  simp only [fdV]
  have k3 := k2.trans (b3.mono k2.size)
  have d1_3 := (d1_2).below b3
  have d2_3 := (d2).below b3
  skip
  skip
  replace d1_3 := Lib.hid d1_3
  replace d2_3 := Lib.hid d2_3
  replace d3 := Lib.hid d3
  replace k3 := Lib.hid k3
  clear b1 b2 b3 d1 d2 k1 k2 d1_2
  go_wp2_with (fail)
  refine bodyPost_ret (by simp [results, Tryz.results81, go_sem, *]; try with_reducible rfl) rfl ?_
  have bb := (Below.refl w3.heap.size w3).alloc (Nat.le_refl _) (.cells #[.func (.func f1a) #[] f1b, .func (.func f1c) #[] f1d, .func (.func f1e) #[] f1f, .func (.func f1g) #[] f1h, .func (.func f1i) #[] f1j, .func (.func f2a) #[] f2b, .func (.func f2c) #[] f2d, .func (.func f2e) #[] f2f, .func (.func f2g) #[] f2h, .func (.func f2i) #[] f2j, .func (.func f3a) #[] f3b, .func (.func f3c) #[] f3d, .func (.func f3e) #[] f3f, .func (.func f3g) #[] f3h, .func (.func f3i) #[] f3j] 157)
  refine ⟨_, _, _, _, rfl, ⟨[⟨f1a, f1b, f1c, f1d, f1e, f1f, f1g, f1h, f1i, f1j⟩, ⟨f2a, f2b, f2c, f2d, f2e, f2f, f2g, f2h, f2i, f2j⟩, ⟨f3a, f3b, f3c, f3d, f3e, f3f, f3g, f3h, f3i, f3j⟩], SL.row5 (hpNew _ _) rfl, rfl, ?_⟩, k3.out.alloc k3.out.size _⟩
  intro i f q hf hq
  have kq : kindF 4 = [(fun c => decide (1 ≤ c.mv) && decide (c.mv ≤ 64), fun c => { c with mv := 0 }), (fun c => okG c.r, fun c => { c with r := (noText, noText) }), (fun c => decide (c.dat.size ≤ 65536), fun c => { c with dat := noText })] := rfl
  rw [kq] at hq
  clear kq
  rcases i with _ | i
  · simp only [List.getElem?_cons_zero, List.getElem?_cons_succ, Option.some.injEq] at hf hq
    subst hf; subst hq
    exact d1_3.out.below bb
  rcases i with _ | i
  · simp only [List.getElem?_cons_zero, List.getElem?_cons_succ, Option.some.injEq] at hf hq
    subst hf; subst hq
    exact d2_3.out.below bb
  rcases i with _ | i
  · simp only [List.getElem?_cons_zero, List.getElem?_cons_succ, Option.some.injEq] at hf hq
    subst hf; subst hq
    exact d3.out.below bb
  simp at hf
end Go.Proofs.YtkpfkabdodnooaaGreatDoor

namespace Go.Proofs.YtkpfkabdodnooaaGreatDoor
open Go.RowKit Go.Shelf
set_option linter.unusedSimpArgs false
set_option linter.unusedVariables false
set_option linter.unusedSectionVars false
set_option maxRecDepth 10000
def encS1 (s : ByteArray) : List Value := [.string s]
abbrev KS (w : World) (A : Option Addr) (n : Nat) (l : List ByteArray) : Prop := SL encS1 1 w A n l
def encC (c : Cn) : List Value := [.int .i64 c.1, .int .i64 c.2.1, .int .i64 c.2.2.1, .int .i64 c.2.2.2.1, .int .i64 c.2.2.2.2]
abbrev CS (w : World) (A : Option Addr) (n : Nat) (l : List Cn) : Prop := SL encC 5 w A n l
def fitsB (r : Rg) (ks : List ByteArray) (cs : List Cn) : Bool := decide (ks.length = cs.length) && okG r && decide ks.Nodup && ks.all (hasG r) && cs.all ckC
structure FitI (r : Rg) (ks : List ByteArray) (cs : List Cn) (i : Nat) : Prop where
  le : i ≤ ks.length
  lc : i ≤ cs.length
  nd : (ks.take i).Nodup
  has : ∀ k ∈ ks.take i, hasG r k = true
  ck : ∀ c ∈ cs.take i, ckC c = true
theorem FitI.zero (r : Rg) (ks : List ByteArray) (cs : List Cn) : FitI r ks cs 0 := ⟨by omega, by omega, by simp, by simp, by simp⟩
theorem FitI.next {r : Rg} {ks : List ByteArray} {cs : List Cn} {i : Nat} (h : FitI r ks cs i) {k : ByteArray} {c : Cn} (hk : ks[i]? = some k) (hc : cs[i]? = some c) (hs : k ∉ ks.take i) (h1 : hasG r k = true) (h2 : ckC c = true) : FitI r ks cs (i + 1) := by
  have e1 : ks.take (i + 1) = ks.take i ++ [k] := by rw [List.take_add_one, hk]; rfl
  have e2 : cs.take (i + 1) = cs.take i ++ [c] := by rw [List.take_add_one, hc]; rfl
  refine ⟨(List.getElem?_eq_some_iff.1 hk).1, (List.getElem?_eq_some_iff.1 hc).1, ?_, ?_, ?_⟩
  · rw [e1, List.nodup_append]
    exact ⟨h.nd, by simp, fun a ha b hb => by simp at hb; subst hb; rintro rfl; exact hs ha⟩
  · intro x hx
    rw [e1] at hx
    rcases List.mem_append.1 hx with q | q
    · exact h.has x q
    · simp at q; rw [q]; exact h1
  · intro x hx
    rw [e2] at hx
    rcases List.mem_append.1 hx with q | q
    · exact h.ck x q
    · simp at q; rw [q]; exact h2
theorem fits_seen {r : Rg} {ks : List ByteArray} {cs : List Cn} {i : Nat} {k : ByteArray} (hk : ks[i]? = some k) (hs : k ∈ ks.take i) : fitsB r ks cs = false := by
  have : ¬ ks.Nodup := fun hn => by
    have hi := (List.getElem?_eq_some_iff.1 hk)
    rw [← List.take_append_drop i ks, List.nodup_append] at hn
    refine hn.2.2 k hs k ?_ rfl
    rw [List.mem_iff_getElem?]
    exact ⟨0, by rw [List.getElem?_drop]; simpa using hk⟩
  unfold fitsB
  rw [decide_eq_false this]; simp
theorem fits_len {r : Rg} {ks : List ByteArray} {cs : List Cn} (h : ks.length ≠ cs.length) : fitsB r ks cs = false := by
  unfold fitsB
  rw [decide_eq_false h]; simp
theorem fits_has {r : Rg} {ks : List ByteArray} {cs : List Cn} {i : Nat} {k : ByteArray} (hk : ks[i]? = some k) (h : hasG r k = false) : fitsB r ks cs = false := by
  have : ks.all (hasG r) = false := by
    rw [List.all_eq_false]
    exact ⟨k, List.mem_of_getElem? hk, by simp [h]⟩
  unfold fitsB
  rw [this]; simp
theorem fits_ck {r : Rg} {ks : List ByteArray} {cs : List Cn} {i : Nat} {c : Cn} (hc : cs[i]? = some c) (h : ckC c = false) : fitsB r ks cs = false := by
  have : cs.all ckC = false := by
    rw [List.all_eq_false]
    exact ⟨c, List.mem_of_getElem? hc, by simp [h]⟩
  unfold fitsB
  rw [this]; simp
theorem fits_end {r : Rg} {ks : List ByteArray} {cs : List Cn} (h : FitI r ks cs ks.length) (hl : ks.length = cs.length) : fitsB r ks cs = okG r := by
  have a := h.nd
  have b := h.has
  have c := h.ck
  rw [List.take_length] at a b
  rw [hl, List.take_length] at c
  unfold fitsB
  rw [decide_eq_true hl, decide_eq_true a, List.all_eq_true.2 b, List.all_eq_true.2 c]; simp
def inL (ks : List ByteArray) (k : ByteArray) : Bool := ks.any fun x => decide (x = k)
theorem inL_iff {ks : List ByteArray} {k : ByteArray} : inL ks k = true ↔ k ∈ ks := by
  unfold inL
  rw [List.any_eq_true]
  constructor
  · rintro ⟨x, hx, e⟩
    have : x = k := by simpa using e
    exact this ▸ hx
  · intro h
    exact ⟨k, h, by simp⟩
theorem inL_not {ks : List ByteArray} {k : ByteArray} (h : inL ks k = false) : k ∉ ks := fun q => by rw [inL_iff.2 q] at h; cases h
theorem inL_cons (a k : ByteArray) (ks : List ByteArray) : inL (a :: ks) k = (decide (a = k) || inL ks k) := rfl
def seenL (ks : List ByteArray) : List (ByteArray × Unit) := ks.foldl (fun l k => putA lessB l k ()) []
theorem seenL_snoc (ks : List ByteArray) (k : ByteArray) : seenL (ks ++ [k]) = putA lessB (seenL ks) k () := by unfold seenL; rw [List.foldl_append]; rfl
theorem look_foldl : ∀ (ks : List ByteArray) (l : List (ByteArray × Unit)) (k : ByteArray), lookA (ks.foldl (fun l k => putA lessB l k ()) l) k = if inL ks k then some () else lookA l k
  | [], l, k => by simp [inL]
  | a :: ks, l, k => by
    rw [List.foldl_cons, look_foldl ks, look_putA, inL_cons]
    cases h : inL ks k with
    | true => simp
    | false =>
      by_cases e : k = a
      · subst e; simp
      · rw [decide_eq_false (fun q => e q.symm), if_neg e]; simp
theorem look_seen (ks : List ByteArray) (k : ByteArray) : (lookA (seenL ks) k).isSome = inL ks k := by
  unfold seenL
  rw [look_foldl]
  cases h : inL ks k <;> simp [lookA]
theorem len_seen (ks : List ByteArray) : (seenL ks).length ≤ ks.length := by
  have : ∀ (ks : List ByteArray) (l : List (ByteArray × Unit)), (ks.foldl (fun l k => putA lessB l k ()) l).length ≤ l.length + ks.length := by
    intro ks
    induction ks with
    | nil => intro l; simp
    | cons a ks ih =>
      intro l
      rw [List.foldl_cons, List.length_cons]
      have h1 := ih (putA lessB l a ())
      have h2 := len_putA (lt := lessB) l a ()
      split at h2 <;> omega
  have := this ks []
  unfold seenL; simpa using this
abbrev seenE : Unit → Value := fun _ => .bool true
theorem zeroBool (w : World) : (zeroValue 4).run Tryz.prog w = .ok (.bool false) w := by kernel_rfl
theorem seen_look {W : World} {b : Nat} {ks : List ByteArray} (h : MapS Tryz.prog 9 seenE W b (seenL ks)) (k : ByteArray) (hk : k.size ≤ maxLen) :
    (Instr.lookup 114 (.map (some b)) (.string k) false).run Tryz.prog W = .ok (.bool (inL ks k)) W := by
  have hkey := Go.WideMaps.keyOf_string_mk undS hk
  obtain ⟨D, h1, h2, h3⟩ := h
  obtain ⟨v, ps, hr, hv⟩ := h1.lookup (Maps.string_keyed undS) Tryz.underlying114 (zeroBool W) (zd := .held (.bool false)) (zp := []) rfl hkey
  obtain ⟨a, c⟩ := h3 _ _ hkey
  rw [hr]
  have hs := look_seen ks k
  rw [sF_some, Option.isSome_map, hs] at a
  cases hm : inL ks k with
  | true =>
    rw [hm] at hs
    obtain ⟨u, hu⟩ := Option.isSome_iff_exists.1 hs
    rw [c _ (by rw [sF_some, hu]; rfl)] at hv
    simp only [heldE, Option.some.injEq, Prod.mk.injEq, DataW.held.injEq] at hv
    rw [hv.1]
  | false =>
    rw [hm] at a
    rw [Maps.atKey_of_not_has a] at hv
    simp only [heldE, Option.some.injEq, Prod.mk.injEq, DataW.held.injEq] at hv
    rw [hv.1]
end Go.Proofs.YtkpfkabdodnooaaGreatDoor

namespace Go.Proofs.YtkpfkabdodnooaaGreatDoor.Wi
def enc (n : Nat) : List UInt8 :=
  if n < 128 then [UInt8.ofNat n] else UInt8.ofNat (n % 128 + 128) :: enc (n / 128)
termination_by n
decreasing_by omega
theorem enc_lt {n : Nat} (h : n < 128) : enc n = [UInt8.ofNat n] := by rw [enc, if_pos h]
theorem enc_ge {n : Nat} (h : 128 ≤ n) : enc n = UInt8.ofNat (n % 128 + 128) :: enc (n / 128) := by rw [enc, if_neg (by omega)]
theorem ofNat_toNat {n : Nat} (h : n < 256) : (UInt8.ofNat n).toNat = n := by rw [UInt8.toNat_ofNat']; exact Nat.mod_eq_of_lt h

theorem enc_len_pow (k : Nat) : ∀ n, n < 128 ^ (k + 1) → (enc n).length ≤ k + 1 := by
  induction k with
  | zero => intro n h; rw [enc_lt (by simpa using h)]; simp
  | succ k ih =>
    intro n h
    rcases Nat.lt_or_ge n 128 with q | q
    · rw [enc_lt q]; simp
    · rw [enc_ge q, List.length_cons]
      have := ih (n / 128) (by rw [Nat.pow_succ] at h; exact Nat.div_lt_of_lt_mul (by rw [Nat.mul_comm]; exact h))
      omega
theorem enc_len {n : Nat} (h : n < 18446744073709551616) : (enc n).length ≤ 10 := enc_len_pow 9 n (by omega)

def zig (a : Int) : Nat := if a < 0 then (2 * (-(a + 1)) + 1).toNat else (2 * a).toNat
theorem zig_lt {a : Int} (h1 : -9223372036854775808 ≤ a) (h2 : a ≤ 9223372036854775807) : zig a < 18446744073709551616 := by unfold zig; split <;> omega
end Go.Proofs.YtkpfkabdodnooaaGreatDoor.Wi
