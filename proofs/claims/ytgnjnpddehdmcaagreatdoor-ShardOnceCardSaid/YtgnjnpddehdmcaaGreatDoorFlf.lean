/- cmds.fields. -/
import Derived.Test.YtgnjnpddehdmcaaGreatDoorFlt
import Derived.Test.YtgnjnpddehdmcaaGreatDoorHas
namespace Go.Proofs.YtgnjnpddehdmcaaGreatDoor
open Go.RowKit Go.Shelf
set_option linter.unusedSimpArgs false
set_option linter.unusedVariables false
set_option linter.unusedSectionVars false
set_option maxRecDepth 10000
structure Fd where
 g1 : Nat
 l1 : Array Value
 g2 : Nat
 l2 : Array Value
 g3 : Nat
 l3 : Array Value
 g4 : Nat
 l4 : Array Value
 g5 : Nat
 l5 : Array Value
def fdV (f : Fd) : List Value := [.func (.func f.g1) #[] f.l1, .func (.func f.g2) #[] f.l2, .func (.func f.g3) #[] f.l3, .func (.func f.g4) #[] f.l4, .func (.func f.g5) #[] f.l5]
def szCd (c : Cd) : Prop := szG c.r ∧ c.key.size ≤ 140737488355328
structure FdW (w : World) (f : Fd) (ok : Cd → Bool) (clr : Cd → Cd) : Prop where
 e1 : ∀ args w, (callFunc f.g1 args).run Tryz.prog w = .ok (.enter f.g1 args) w
 e5 : ∀ args w, (callFunc f.g5 args).run Tryz.prog w = .ok (.enter f.g5 args) w
 ok : ∀ W, Below w.heap.size w W → ∀ b c, szCd c → W.heap[b]? = some (.cells (cdV c) 40 (0, 0)) → Calls Tryz.prog f.g1 (#[.pointer (some ⟨b, 0, none⟩)] ++ f.l1) W fun e W' => e = .returned (.bool (ok c)) ∧ Below W.heap.size W W'
 clr : ∀ W, Below w.heap.size w W → ∀ b c, W.heap[b]? = some (.cells (cdV c) 40 (0, 0)) → Calls Tryz.prog f.g5 (#[.pointer (some ⟨b, 0, none⟩)] ++ f.l5) W fun e W' => e = .returned (.tuple #[]) ∧ CdTo b (clr c) W W'
theorem FdW.below {w W : World} {f : Fd} {ok : Cd → Bool} {clr : Cd → Cd} (h : FdW w f ok clr) (hb : Below w.heap.size w W) : FdW W f ok clr :=
 ⟨h.e1, h.e5, fun X hx => h.ok X (hb.trans (hx.mono hb.size)), fun X hx => h.clr X (hb.trans (hx.mono hb.size))⟩
theorem fd_eff (w : World) : Calls Tryz.prog 41 #[] w fun e w' => ∃ f, e = .returned (.agg (fdV f).toArray) ∧ Below w.heap.size w w' ∧ FdW w' f (fun c => okE c.e) (fun c => { c with e := (0, 0, 0) }) := by
 refine (mk_eff w).mono ?_
 rintro e w' ⟨rfl, hb⟩
 exact ⟨⟨96, #[], 98, #[], 100, #[], 102, #[], 104, #[]⟩, rfl, hb, ⟨(enters_of Tryz.func96 (by kernel_rfl) rfl), (enters_of Tryz.func104 (by kernel_rfl) rfl), (fun W _ b c hs h => eff_ok h), (fun W _ b c h => eff_clear h)⟩⟩
theorem fd_delta (w : World) : Calls Tryz.prog 43 #[] w fun e w' => ∃ f, e = .returned (.agg (fdV f).toArray) ∧ Below w.heap.size w w' ∧ FdW w' f (fun c => okD c.dl) (fun c => { c with dl := 0 }) := by
 refine (mk_delta w).mono ?_
 rintro e w' ⟨rfl, hb⟩
 exact ⟨⟨108, #[], 110, #[], 112, #[], 114, #[], 116, #[]⟩, rfl, hb, ⟨(enters_of Tryz.func108 (by kernel_rfl) rfl), (enters_of Tryz.func116 (by kernel_rfl) rfl), (fun W _ b c hs h => delta_ok h), (fun W _ b c h => delta_clear h)⟩⟩
theorem fd_range (w : World) : Calls Tryz.prog 46 #[] w fun e w' => ∃ f, e = .returned (.agg (fdV f).toArray) ∧ Below w.heap.size w w' ∧ FdW w' f (fun c => okG c.r) (fun c => { c with r := (noText, noText) }) := by
 refine (mk_range w).mono ?_
 rintro e w' ⟨rfl, hb⟩
 exact ⟨⟨120, #[], 121, #[], 123, #[], 125, #[], 127, #[]⟩, rfl, hb, ⟨(enters_of Tryz.func120 (by kernel_rfl) rfl), (enters_of Tryz.func127 (by kernel_rfl) rfl), (fun W _ b c hs h => range_ok h hs.1), (fun W _ b c h => range_clear h)⟩⟩
theorem fd_key (w : World) : Calls Tryz.prog 42 #[] w fun e w' => ∃ f, e = .returned (.agg (fdV f).toArray) ∧ Below w.heap.size w w' ∧ FdW w' f (fun c => nameB c.key) (fun c => { c with key := noText }) := by
 go_enter Tryz.func42, Tryz.ntmps42
 go_wp2_with (fail)
 refine (text_any 106 95 107 _).mono ?_
 rintro e w2 ⟨rfl, b2, c0, c1⟩
 have k2 := Lh (((Below.refl _ w).alloc (Nat.le_refl _) _).trans (b2.mono (by simp)))
 have e1 := (b2.block w.heap.size (by simp)).trans (hpNew _ _)
 have s0 := blkC e1 0
 have s1 := blkC e1 1
 have s2 := blkC e1 2
 have s3 := blkC e1 3
 have s4 := blkC e1 4
 have sf := blkF e1; have sx := blkX e1
 simp only [List.getElem?_toArray, List.getElem?_cons_zero, List.getElem?_cons_succ] at s0 s1 s2 s3 s4
 simp only [World.size_alloc] at c0 c1 ⊢
 replace c0 := Lh c0; replace c1 := Lh c1; replace e1 := Lh e1
 clear b2
 go_wp2_with (fail)
 refine bodyPost_ret (by simp [results, Tryz.results42, go_sem, *]; try with_reducible rfl) rfl ?_
 obtain ⟨W, hW⟩ : ∃ W, W = (((((w2.setCell ⟨w.heap.size, 0, none⟩ (.func (.func 191) #[] #[.pointer (some ⟨(w.heap.size + 1) + 1, 0, none⟩), .pointer (some ⟨(w.heap.size + 1), 0, none⟩)])).setCell ⟨w.heap.size, 1, none⟩ (.func (.func 192) #[] #[.pointer (some ⟨(w.heap.size + 1), 0, none⟩)])).setCell ⟨w.heap.size, 2, none⟩ (.func (.func 193) #[] #[.pointer (some ⟨(w.heap.size + 1), 0, none⟩)])).setCell ⟨w.heap.size, 3, none⟩ (.func (.func 194) #[] #[.pointer (some ⟨(w.heap.size + 1) + 1 + 1, 0, none⟩), .pointer (some ⟨(w.heap.size + 1), 0, none⟩)])).setCell ⟨w.heap.size, 4, none⟩ (.func (.func 195) #[] #[.pointer (some ⟨(w.heap.size + 1), 0, none⟩)])) := ⟨_, rfl⟩
 rw [← hW]
 have kW : Below w.heap.size w W := by rw [hW]; exact (by repeat (first | exact k2.out | refine Below.setCell ?_ (by exact Nat.le_refl _) _))
 have d0 := c0.out
 have x0 : W.heap[w.heap.size + 1]? = some (.cells #[.func (.func 106) #[] #[]] 176 (0, 0)) := by rw [hW]; (iterate 5 (refine (hpFar (by simp only; omega)).trans ?_)); exact d0
 clear d0
 have d1 := c1.out
 have x1 : W.heap[w.heap.size + 1 + 1]? = some (.cells #[.func (.func 95) #[] #[]] 128 (0, 0)) := by rw [hW]; (iterate 5 (refine (hpFar (by simp only; omega)).trans ?_)); exact d1
 clear d1
 refine ⟨⟨191, #[.pointer (some ⟨(w.heap.size + 1) + 1, 0, none⟩), .pointer (some ⟨(w.heap.size + 1), 0, none⟩)], 192, #[.pointer (some ⟨(w.heap.size + 1), 0, none⟩)], 193, #[.pointer (some ⟨(w.heap.size + 1), 0, none⟩)], 194, #[.pointer (some ⟨(w.heap.size + 1) + 1 + 1, 0, none⟩), .pointer (some ⟨(w.heap.size + 1), 0, none⟩)], 195, #[.pointer (some ⟨(w.heap.size + 1), 0, none⟩)]⟩, rfl, kW, ⟨(enters_of Tryz.func191 (by kernel_rfl) rfl), (enters_of Tryz.func195 (by kernel_rfl) rfl), ?_, ?_⟩⟩
 ·
  intro W hb b c hs h
  have y0 := (hb.block _ (blkX x0)).trans x0; have y1 := (hb.block _ (blkX x1)).trans x1
  have hbl := blkX h
  exact text1 (enters_of Tryz.func106 (by kernel_rfl) rfl) (enters_of Tryz.func95 (by kernel_rfl) rfl) h (j := 6) rfl y1 y0 (fun X => at_key b X) (fun X => name_any c.key hs.2 X)
 ·
  intro W hb b c h
  have y0 := (hb.block _ (blkX x0)).trans x0
  refine (text5 (enters_of Tryz.func106 (by kernel_rfl) rfl) h (j := 6) rfl y0 (fun X => at_key b X)).mono ?_
  rintro e W' ⟨rfl, rfl⟩
  exact ⟨rfl, hpSet (i := 6) (v := .string ⟨#[]⟩) h, chg_set⟩
theorem fd_data (w : World) : Calls Tryz.prog 47 #[] w fun e w' => ∃ f, e = .returned (.agg (fdV f).toArray) ∧ Below w.heap.size w w' ∧ FdW w' f (fun c => decide (c.dat.size ≤ 65536)) (fun c => { c with dat := noText }) := by
 go_enter Tryz.func47, Tryz.ntmps47
 go_wp2_with (fail)
 refine (text_any 128 129 130 _).mono ?_
 rintro e w2 ⟨rfl, b2, c0, c1⟩
 have k2 := Lh (((Below.refl _ w).alloc (Nat.le_refl _) _).trans (b2.mono (by simp)))
 have e1 := (b2.block w.heap.size (by simp)).trans (hpNew _ _)
 have s0 := blkC e1 0
 have s1 := blkC e1 1
 have s2 := blkC e1 2
 have s3 := blkC e1 3
 have s4 := blkC e1 4
 have sf := blkF e1; have sx := blkX e1
 simp only [List.getElem?_toArray, List.getElem?_cons_zero, List.getElem?_cons_succ] at s0 s1 s2 s3 s4
 simp only [World.size_alloc] at c0 c1 ⊢
 replace c0 := Lh c0; replace c1 := Lh c1; replace e1 := Lh e1
 clear b2
 go_wp2_with (fail)
 refine bodyPost_ret (by simp [results, Tryz.results47, go_sem, *]; try with_reducible rfl) rfl ?_
 obtain ⟨W, hW⟩ : ∃ W, W = (((((w2.setCell ⟨w.heap.size, 0, none⟩ (.func (.func 191) #[] #[.pointer (some ⟨(w.heap.size + 1) + 1, 0, none⟩), .pointer (some ⟨(w.heap.size + 1), 0, none⟩)])).setCell ⟨w.heap.size, 1, none⟩ (.func (.func 192) #[] #[.pointer (some ⟨(w.heap.size + 1), 0, none⟩)])).setCell ⟨w.heap.size, 2, none⟩ (.func (.func 193) #[] #[.pointer (some ⟨(w.heap.size + 1), 0, none⟩)])).setCell ⟨w.heap.size, 3, none⟩ (.func (.func 194) #[] #[.pointer (some ⟨(w.heap.size + 1) + 1 + 1, 0, none⟩), .pointer (some ⟨(w.heap.size + 1), 0, none⟩)])).setCell ⟨w.heap.size, 4, none⟩ (.func (.func 195) #[] #[.pointer (some ⟨(w.heap.size + 1), 0, none⟩)])) := ⟨_, rfl⟩
 rw [← hW]
 have kW : Below w.heap.size w W := by rw [hW]; exact (by repeat (first | exact k2.out | refine Below.setCell ?_ (by exact Nat.le_refl _) _))
 have d0 := c0.out
 have x0 : W.heap[w.heap.size + 1]? = some (.cells #[.func (.func 128) #[] #[]] 176 (0, 0)) := by rw [hW]; (iterate 5 (refine (hpFar (by simp only; omega)).trans ?_)); exact d0
 clear d0
 have d1 := c1.out
 have x1 : W.heap[w.heap.size + 1 + 1]? = some (.cells #[.func (.func 129) #[] #[]] 128 (0, 0)) := by rw [hW]; (iterate 5 (refine (hpFar (by simp only; omega)).trans ?_)); exact d1
 clear d1
 refine ⟨⟨191, #[.pointer (some ⟨(w.heap.size + 1) + 1, 0, none⟩), .pointer (some ⟨(w.heap.size + 1), 0, none⟩)], 192, #[.pointer (some ⟨(w.heap.size + 1), 0, none⟩)], 193, #[.pointer (some ⟨(w.heap.size + 1), 0, none⟩)], 194, #[.pointer (some ⟨(w.heap.size + 1) + 1 + 1, 0, none⟩), .pointer (some ⟨(w.heap.size + 1), 0, none⟩)], 195, #[.pointer (some ⟨(w.heap.size + 1), 0, none⟩)]⟩, rfl, kW, ⟨(enters_of Tryz.func191 (by kernel_rfl) rfl), (enters_of Tryz.func195 (by kernel_rfl) rfl), ?_, ?_⟩⟩
 ·
  intro W hb b c hs h
  have y0 := (hb.block _ (blkX x0)).trans x0; have y1 := (hb.block _ (blkX x1)).trans x1
  have hbl := blkX h
  exact text1 (enters_of Tryz.func128 (by kernel_rfl) rfl) (enters_of Tryz.func129 (by kernel_rfl) rfl) h (j := 23) rfl y1 y0 (fun X => at_data b X) (fun X => (data_ok c.dat X).mono (by rintro e W' ⟨rfl, rfl⟩; exact ⟨rfl, Below.refl _ _⟩))
 ·
  intro W hb b c h
  have y0 := (hb.block _ (blkX x0)).trans x0
  refine (text5 (enters_of Tryz.func128 (by kernel_rfl) rfl) h (j := 23) rfl y0 (fun X => at_data b X)).mono ?_
  rintro e W' ⟨rfl, rfl⟩
  exact ⟨rfl, hpSet (i := 23) (v := .string ⟨#[]⟩) h, chg_set⟩
theorem fd_call (w : World) : Calls Tryz.prog 44 #[] w fun e w' => ∃ f, e = .returned (.agg (fdV f).toArray) ∧ Below w.heap.size w w' ∧ FdW w' f (fun c => decide (0 ≤ c.call) && decide (c.call ≤ 2147483648)) (fun c => { c with call := 0 }) := by
 go_enter Tryz.func44, Tryz.ntmps44
 go_wp2_with (fail)
 refine (number_any 118 0 2147483648 _).mono ?_
 rintro e w2 ⟨rfl, b2, c0, c1, c2⟩
 have k2 := Lh (((Below.refl _ w).alloc (Nat.le_refl _) _).trans (b2.mono (by simp)))
 have e1 := (b2.block w.heap.size (by simp)).trans (hpNew _ _)
 have s0 := blkC e1 0
 have s1 := blkC e1 1
 have s2 := blkC e1 2
 have s3 := blkC e1 3
 have s4 := blkC e1 4
 have sf := blkF e1; have sx := blkX e1
 simp only [List.getElem?_toArray, List.getElem?_cons_zero, List.getElem?_cons_succ] at s0 s1 s2 s3 s4
 simp only [World.size_alloc] at c0 c1 c2 ⊢
 replace c0 := Lh c0; replace c1 := Lh c1; replace e1 := Lh e1; replace c2 := Lh c2
 clear b2
 go_wp2_with (fail)
 refine bodyPost_ret (by simp [results, Tryz.results44, go_sem, *]; try with_reducible rfl) rfl ?_
 obtain ⟨W, hW⟩ : ∃ W, W = (((((w2.setCell ⟨w.heap.size, 0, none⟩ (.func (.func 202) #[] #[.pointer (some ⟨(w.heap.size + 1), 0, none⟩), .pointer (some ⟨(w.heap.size + 1) + 1, 0, none⟩), .pointer (some ⟨(w.heap.size + 1) + 1 + 1, 0, none⟩)])).setCell ⟨w.heap.size, 1, none⟩ (.func (.func 204) #[] #[.pointer (some ⟨(w.heap.size + 1), 0, none⟩)])).setCell ⟨w.heap.size, 2, none⟩ (.func (.func 205) #[] #[.pointer (some ⟨(w.heap.size + 1) + 1 + 1, 0, none⟩), .pointer (some ⟨(w.heap.size + 1), 0, none⟩)])).setCell ⟨w.heap.size, 3, none⟩ (.func (.func 206) #[] #[.pointer (some ⟨(w.heap.size + 1), 0, none⟩)])).setCell ⟨w.heap.size, 4, none⟩ (.func (.func 207) #[] #[.pointer (some ⟨(w.heap.size + 1), 0, none⟩)])) := ⟨_, rfl⟩
 rw [← hW]
 have kW : Below w.heap.size w W := by rw [hW]; exact (by repeat (first | exact k2.out | refine Below.setCell ?_ (by exact Nat.le_refl _) _))
 have d0 := c0.out
 have x0 : W.heap[w.heap.size + 1]? = some (.cells #[.func (.func 118) #[] #[]] 184 (0, 0)) := by rw [hW]; (iterate 5 (refine (hpFar (by simp only; omega)).trans ?_)); exact d0
 clear d0
 have d1 := c1.out
 have x1 : W.heap[w.heap.size + 1 + 1]? = some (.cells #[.int .i64 0] 3 (0, 0)) := by rw [hW]; (iterate 5 (refine (hpFar (by simp only; omega)).trans ?_)); exact d1
 clear d1
 have d2 := c2.out
 have x2 : W.heap[w.heap.size + 1 + 1 + 1]? = some (.cells #[.int .i64 2147483648] 3 (0, 0)) := by rw [hW]; (iterate 5 (refine (hpFar (by simp only; omega)).trans ?_)); exact d2
 clear d2
 refine ⟨⟨202, #[.pointer (some ⟨(w.heap.size + 1), 0, none⟩), .pointer (some ⟨(w.heap.size + 1) + 1, 0, none⟩), .pointer (some ⟨(w.heap.size + 1) + 1 + 1, 0, none⟩)], 204, #[.pointer (some ⟨(w.heap.size + 1), 0, none⟩)], 205, #[.pointer (some ⟨(w.heap.size + 1) + 1 + 1, 0, none⟩), .pointer (some ⟨(w.heap.size + 1), 0, none⟩)], 206, #[.pointer (some ⟨(w.heap.size + 1), 0, none⟩)], 207, #[.pointer (some ⟨(w.heap.size + 1), 0, none⟩)]⟩, rfl, kW, ⟨(enters_of Tryz.func202 (by kernel_rfl) rfl), (enters_of Tryz.func207 (by kernel_rfl) rfl), ?_, ?_⟩⟩
 ·
  intro W hb b c hs h
  have y0 := (hb.block _ (blkX x0)).trans x0; have y1 := (hb.block _ (blkX x1)).trans x1; have y2 := (hb.block _ (blkX x2)).trans x2
  have hbl := blkX h
  exact number1 (enters_of Tryz.func118 (by kernel_rfl) rfl) h (j := 1) rfl y0 y1 y2 (fun X => at_call b X)
 ·
  intro W hb b c h
  have y0 := (hb.block _ (blkX x0)).trans x0
  refine (number5 (enters_of Tryz.func118 (by kernel_rfl) rfl) h (j := 1) rfl y0 (fun X => at_call b X)).mono ?_
  rintro e W' ⟨rfl, rfl⟩
  exact ⟨rfl, hpSet (i := 1) (v := .int .i64 0) h, chg_set⟩
theorem fd_move (w : World) : Calls Tryz.prog 45 #[] w fun e w' => ∃ f, e = .returned (.agg (fdV f).toArray) ∧ Below w.heap.size w w' ∧ FdW w' f (fun c => decide (1 ≤ c.mv) && decide (c.mv ≤ 64)) (fun c => { c with mv := 0 }) := by
 go_enter Tryz.func45, Tryz.ntmps45
 go_wp2_with (fail)
 refine (number_any 119 1 64 _).mono ?_
 rintro e w2 ⟨rfl, b2, c0, c1, c2⟩
 have k2 := Lh (((Below.refl _ w).alloc (Nat.le_refl _) _).trans (b2.mono (by simp)))
 have e1 := (b2.block w.heap.size (by simp)).trans (hpNew _ _)
 have s0 := blkC e1 0
 have s1 := blkC e1 1
 have s2 := blkC e1 2
 have s3 := blkC e1 3
 have s4 := blkC e1 4
 have sf := blkF e1; have sx := blkX e1
 simp only [List.getElem?_toArray, List.getElem?_cons_zero, List.getElem?_cons_succ] at s0 s1 s2 s3 s4
 simp only [World.size_alloc] at c0 c1 c2 ⊢
 replace c0 := Lh c0; replace c1 := Lh c1; replace e1 := Lh e1; replace c2 := Lh c2
 clear b2
 go_wp2_with (fail)
 refine bodyPost_ret (by simp [results, Tryz.results45, go_sem, *]; try with_reducible rfl) rfl ?_
 obtain ⟨W, hW⟩ : ∃ W, W = (((((w2.setCell ⟨w.heap.size, 0, none⟩ (.func (.func 202) #[] #[.pointer (some ⟨(w.heap.size + 1), 0, none⟩), .pointer (some ⟨(w.heap.size + 1) + 1, 0, none⟩), .pointer (some ⟨(w.heap.size + 1) + 1 + 1, 0, none⟩)])).setCell ⟨w.heap.size, 1, none⟩ (.func (.func 204) #[] #[.pointer (some ⟨(w.heap.size + 1), 0, none⟩)])).setCell ⟨w.heap.size, 2, none⟩ (.func (.func 205) #[] #[.pointer (some ⟨(w.heap.size + 1) + 1 + 1, 0, none⟩), .pointer (some ⟨(w.heap.size + 1), 0, none⟩)])).setCell ⟨w.heap.size, 3, none⟩ (.func (.func 206) #[] #[.pointer (some ⟨(w.heap.size + 1), 0, none⟩)])).setCell ⟨w.heap.size, 4, none⟩ (.func (.func 207) #[] #[.pointer (some ⟨(w.heap.size + 1), 0, none⟩)])) := ⟨_, rfl⟩
 rw [← hW]
 have kW : Below w.heap.size w W := by rw [hW]; exact (by repeat (first | exact k2.out | refine Below.setCell ?_ (by exact Nat.le_refl _) _))
 have d0 := c0.out
 have x0 : W.heap[w.heap.size + 1]? = some (.cells #[.func (.func 119) #[] #[]] 184 (0, 0)) := by rw [hW]; (iterate 5 (refine (hpFar (by simp only; omega)).trans ?_)); exact d0
 clear d0
 have d1 := c1.out
 have x1 : W.heap[w.heap.size + 1 + 1]? = some (.cells #[.int .i64 1] 3 (0, 0)) := by rw [hW]; (iterate 5 (refine (hpFar (by simp only; omega)).trans ?_)); exact d1
 clear d1
 have d2 := c2.out
 have x2 : W.heap[w.heap.size + 1 + 1 + 1]? = some (.cells #[.int .i64 64] 3 (0, 0)) := by rw [hW]; (iterate 5 (refine (hpFar (by simp only; omega)).trans ?_)); exact d2
 clear d2
 refine ⟨⟨202, #[.pointer (some ⟨(w.heap.size + 1), 0, none⟩), .pointer (some ⟨(w.heap.size + 1) + 1, 0, none⟩), .pointer (some ⟨(w.heap.size + 1) + 1 + 1, 0, none⟩)], 204, #[.pointer (some ⟨(w.heap.size + 1), 0, none⟩)], 205, #[.pointer (some ⟨(w.heap.size + 1) + 1 + 1, 0, none⟩), .pointer (some ⟨(w.heap.size + 1), 0, none⟩)], 206, #[.pointer (some ⟨(w.heap.size + 1), 0, none⟩)], 207, #[.pointer (some ⟨(w.heap.size + 1), 0, none⟩)]⟩, rfl, kW, ⟨(enters_of Tryz.func202 (by kernel_rfl) rfl), (enters_of Tryz.func207 (by kernel_rfl) rfl), ?_, ?_⟩⟩
 ·
  intro W hb b c hs h
  have y0 := (hb.block _ (blkX x0)).trans x0; have y1 := (hb.block _ (blkX x1)).trans x1; have y2 := (hb.block _ (blkX x2)).trans x2
  have hbl := blkX h
  exact number1 (enters_of Tryz.func119 (by kernel_rfl) rfl) h (j := 8) rfl y0 y1 y2 (fun X => at_move b X)
 ·
  intro W hb b c h
  have y0 := (hb.block _ (blkX x0)).trans x0
  refine (number5 (enters_of Tryz.func119 (by kernel_rfl) rfl) h (j := 8) rfl y0 (fun X => at_move b X)).mono ?_
  rintro e W' ⟨rfl, rfl⟩
  exact ⟨rfl, hpSet (i := 8) (v := .int .i64 0) h, chg_set⟩
def kindF (k : Int) : List ((Cd → Bool) × (Cd → Cd)) :=
 if k = 1 then [(fun c => okE c.e, fun c => { c with e := (0, 0, 0) }), (fun c => nameB c.key, fun c => { c with key := noText }), (fun c => okD c.dl, fun c => { c with dl := 0 })] else
 if k = 2 then [(fun c => decide (0 ≤ c.call) && decide (c.call ≤ 2147483648), fun c => { c with call := 0 }), (fun c => nameB c.key, fun c => { c with key := noText })] else
 if k = 3 then [(fun c => decide (1 ≤ c.mv) && decide (c.mv ≤ 64), fun c => { c with mv := 0 }), (fun c => okG c.r, fun c => { c with r := (noText, noText) })] else
 if k = 4 then [(fun c => decide (1 ≤ c.mv) && decide (c.mv ≤ 64), fun c => { c with mv := 0 }), (fun c => okG c.r, fun c => { c with r := (noText, noText) }), (fun c => decide (c.dat.size ≤ 65536), fun c => { c with dat := noText })] else
 []
structure FdsW (w : World) (A : Option Addr) (n : Nat) (fs : List ((Cd → Bool) × (Cd → Cd))) : Prop where
 ex : ∃ fl : List Fd, SL fdV 5 w A n fl ∧ fl.length = fs.length ∧ ∀ (i : Nat) (f : Fd) (q : (Cd → Bool) × (Cd → Cd)), fl[i]? = some f → fs[i]? = some q → FdW w f q.1 q.2
theorem FdsW.nil (w : World) : FdsW w none 0 [] := ⟨[], SL.nil _ _, rfl, fun i f q h => by simp at h⟩
theorem fdV_len (f : Fd) : (fdV f).length = 5 := rfl
theorem SL.row5 {W : World} {g : Nat} {T : TypeId} {fr : Nat × Nat} {l : List Fd} {n : Nat} (h : W.heap[g]? = some (.cells (flat fdV l).toArray T fr)) (hn : l.length = n) : SL fdV 5 W (some ⟨g, 0, none⟩) n l :=
 ⟨hn, fun _ => ⟨g, 0, rfl, blkX h, fun i x hx j u hu => by
  have hj : j < 5 := by rw [← fdV_len x]; exact (List.getElem?_eq_some_iff.1 hu).1
  refine (blkC h (0 + i * 5 + j)).trans ?_
  rw [Nat.zero_add, List.getElem?_toArray, flat_get fdV_len l i x j hx hj] <;> exact hu⟩⟩
theorem fields0 (w : World) : Calls Tryz.prog 18 #[.int .i64 0] w fun e w' => ∃ s A n c, e = .returned (.tuple #[.string s, .slice A n c, .bool true]) ∧ FdsW w' A n (kindF 0) ∧ Below w.heap.size w w' := by
 go_enter Tryz.func18, Tryz.ntmps18
 go_wp2_with (fail)
 refine bodyPost_ret (by simp [results, Tryz.results18, go_sem, *]; try with_reducible rfl) rfl ?_
 exact ⟨_, _, _, _, rfl, FdsW.nil _, Below.refl _ _⟩
theorem fields1 (w : World) : Calls Tryz.prog 18 #[.int .i64 1] w fun e w' => ∃ s A n c, e = .returned (.tuple #[.string s, .slice A n c, .bool true]) ∧ FdsW w' A n (kindF 1) ∧ Below w.heap.size w w' := by
 go_enter Tryz.func18, Tryz.ntmps18
 go_wp2_with (fail)
 refine (fd_eff _).mono ?_
 rintro e w1 ⟨⟨f1a, f1b, f1c, f1d, f1e, f1f, f1g, f1h, f1i, f1j⟩, rfl, b1, d1⟩
 simp only [fdV]
 have k1 := b1
 skip
 go_wp2_with (fail)
 refine (fd_key _).mono ?_
 rintro e w2 ⟨⟨f2a, f2b, f2c, f2d, f2e, f2f, f2g, f2h, f2i, f2j⟩, rfl, b2, d2⟩
 simp only [fdV]
 have k2 := k1.trans (b2.mono k1.size)
 have d1_2 := (d1).below b2
 skip
 go_wp2_with (fail)
 refine (fd_delta _).mono ?_
 rintro e w3 ⟨⟨f3a, f3b, f3c, f3d, f3e, f3f, f3g, f3h, f3i, f3j⟩, rfl, b3, d3⟩
 simp only [fdV]
 have k3 := k2.trans (b3.mono k2.size)
 have d1_3 := (d1_2).below b3
 have d2_3 := (d2).below b3
 skip
 skip
 replace d1_3 := Lh d1_3
 replace d2_3 := Lh d2_3
 replace d3 := Lh d3
 replace k3 := Lh k3
 clear b1 b2 b3 d1 d2 k1 k2 d1_2
 go_wp2_with (fail)
 refine bodyPost_ret (by simp [results, Tryz.results18, go_sem, *]; try with_reducible rfl) rfl ?_
 have bb := (Below.refl w3.heap.size w3).alloc (Nat.le_refl _) (.cells #[.func (.func f1a) #[] f1b, .func (.func f1c) #[] f1d, .func (.func f1e) #[] f1f, .func (.func f1g) #[] f1h, .func (.func f1i) #[] f1j, .func (.func f2a) #[] f2b, .func (.func f2c) #[] f2d, .func (.func f2e) #[] f2f, .func (.func f2g) #[] f2h, .func (.func f2i) #[] f2j, .func (.func f3a) #[] f3b, .func (.func f3c) #[] f3d, .func (.func f3e) #[] f3f, .func (.func f3g) #[] f3h, .func (.func f3i) #[] f3j] 77)
 refine ⟨_, _, _, _, rfl, ⟨[⟨f1a, f1b, f1c, f1d, f1e, f1f, f1g, f1h, f1i, f1j⟩, ⟨f2a, f2b, f2c, f2d, f2e, f2f, f2g, f2h, f2i, f2j⟩, ⟨f3a, f3b, f3c, f3d, f3e, f3f, f3g, f3h, f3i, f3j⟩], SL.row5 (hpNew _ _) rfl, rfl, ?_⟩, k3.out.alloc k3.out.size _⟩
 intro i f q hf hq
 have kq : kindF 1 = [(fun c => okE c.e, fun c => { c with e := (0, 0, 0) }), (fun c => nameB c.key, fun c => { c with key := noText }), (fun c => okD c.dl, fun c => { c with dl := 0 })] := rfl
 rw [kq] at hq
 clear kq
 rcases i with _ | i
 ·
  simp only [List.getElem?_cons_zero, List.getElem?_cons_succ, Option.some.injEq] at hf hq
  subst hf; subst hq
  exact d1_3.out.below bb
 rcases i with _ | i
 ·
  simp only [List.getElem?_cons_zero, List.getElem?_cons_succ, Option.some.injEq] at hf hq
  subst hf; subst hq
  exact d2_3.out.below bb
 rcases i with _ | i
 ·
  simp only [List.getElem?_cons_zero, List.getElem?_cons_succ, Option.some.injEq] at hf hq
  subst hf; subst hq
  exact d3.out.below bb
 simp at hf
theorem fields2 (w : World) : Calls Tryz.prog 18 #[.int .i64 2] w fun e w' => ∃ s A n c, e = .returned (.tuple #[.string s, .slice A n c, .bool true]) ∧ FdsW w' A n (kindF 2) ∧ Below w.heap.size w w' := by
 go_enter Tryz.func18, Tryz.ntmps18
 go_wp2_with (fail)
 refine (fd_call _).mono ?_
 rintro e w1 ⟨⟨f1a, f1b, f1c, f1d, f1e, f1f, f1g, f1h, f1i, f1j⟩, rfl, b1, d1⟩
 simp only [fdV]
 have k1 := b1
 skip
 go_wp2_with (fail)
 refine (fd_key _).mono ?_
 rintro e w2 ⟨⟨f2a, f2b, f2c, f2d, f2e, f2f, f2g, f2h, f2i, f2j⟩, rfl, b2, d2⟩
 simp only [fdV]
 have k2 := k1.trans (b2.mono k1.size)
 have d1_2 := (d1).below b2
 skip
 skip
 replace d1_2 := Lh d1_2
 replace d2 := Lh d2
 replace k2 := Lh k2
 clear b1 b2 d1 k1
 go_wp2_with (fail)
 refine bodyPost_ret (by simp [results, Tryz.results18, go_sem, *]; try with_reducible rfl) rfl ?_
 have bb := (Below.refl w2.heap.size w2).alloc (Nat.le_refl _) (.cells #[.func (.func f1a) #[] f1b, .func (.func f1c) #[] f1d, .func (.func f1e) #[] f1f, .func (.func f1g) #[] f1h, .func (.func f1i) #[] f1j, .func (.func f2a) #[] f2b, .func (.func f2c) #[] f2d, .func (.func f2e) #[] f2f, .func (.func f2g) #[] f2h, .func (.func f2i) #[] f2j] 77)
 refine ⟨_, _, _, _, rfl, ⟨[⟨f1a, f1b, f1c, f1d, f1e, f1f, f1g, f1h, f1i, f1j⟩, ⟨f2a, f2b, f2c, f2d, f2e, f2f, f2g, f2h, f2i, f2j⟩], SL.row5 (hpNew _ _) rfl, rfl, ?_⟩, k2.out.alloc k2.out.size _⟩
 intro i f q hf hq
 have kq : kindF 2 = [(fun c => decide (0 ≤ c.call) && decide (c.call ≤ 2147483648), fun c => { c with call := 0 }), (fun c => nameB c.key, fun c => { c with key := noText })] := rfl
 rw [kq] at hq
 clear kq
 rcases i with _ | i
 ·
  simp only [List.getElem?_cons_zero, List.getElem?_cons_succ, Option.some.injEq] at hf hq
  subst hf; subst hq
  exact d1_2.out.below bb
 rcases i with _ | i
 ·
  simp only [List.getElem?_cons_zero, List.getElem?_cons_succ, Option.some.injEq] at hf hq
  subst hf; subst hq
  exact d2.out.below bb
 simp at hf
theorem fields3 (w : World) : Calls Tryz.prog 18 #[.int .i64 3] w fun e w' => ∃ s A n c, e = .returned (.tuple #[.string s, .slice A n c, .bool true]) ∧ FdsW w' A n (kindF 3) ∧ Below w.heap.size w w' := by
 go_enter Tryz.func18, Tryz.ntmps18
 go_wp2_with (fail)
 refine (fd_move _).mono ?_
 rintro e w1 ⟨⟨f1a, f1b, f1c, f1d, f1e, f1f, f1g, f1h, f1i, f1j⟩, rfl, b1, d1⟩
 simp only [fdV]
 have k1 := b1
 skip
 go_wp2_with (fail)
 refine (fd_range _).mono ?_
 rintro e w2 ⟨⟨f2a, f2b, f2c, f2d, f2e, f2f, f2g, f2h, f2i, f2j⟩, rfl, b2, d2⟩
 simp only [fdV]
 have k2 := k1.trans (b2.mono k1.size)
 have d1_2 := (d1).below b2
 skip
 skip
 replace d1_2 := Lh d1_2
 replace d2 := Lh d2
 replace k2 := Lh k2
 clear b1 b2 d1 k1
 go_wp2_with (fail)
 refine bodyPost_ret (by simp [results, Tryz.results18, go_sem, *]; try with_reducible rfl) rfl ?_
 have bb := (Below.refl w2.heap.size w2).alloc (Nat.le_refl _) (.cells #[.func (.func f1a) #[] f1b, .func (.func f1c) #[] f1d, .func (.func f1e) #[] f1f, .func (.func f1g) #[] f1h, .func (.func f1i) #[] f1j, .func (.func f2a) #[] f2b, .func (.func f2c) #[] f2d, .func (.func f2e) #[] f2f, .func (.func f2g) #[] f2h, .func (.func f2i) #[] f2j] 77)
 refine ⟨_, _, _, _, rfl, ⟨[⟨f1a, f1b, f1c, f1d, f1e, f1f, f1g, f1h, f1i, f1j⟩, ⟨f2a, f2b, f2c, f2d, f2e, f2f, f2g, f2h, f2i, f2j⟩], SL.row5 (hpNew _ _) rfl, rfl, ?_⟩, k2.out.alloc k2.out.size _⟩
 intro i f q hf hq
 have kq : kindF 3 = [(fun c => decide (1 ≤ c.mv) && decide (c.mv ≤ 64), fun c => { c with mv := 0 }), (fun c => okG c.r, fun c => { c with r := (noText, noText) })] := rfl
 rw [kq] at hq
 clear kq
 rcases i with _ | i
 ·
  simp only [List.getElem?_cons_zero, List.getElem?_cons_succ, Option.some.injEq] at hf hq
  subst hf; subst hq
  exact d1_2.out.below bb
 rcases i with _ | i
 ·
  simp only [List.getElem?_cons_zero, List.getElem?_cons_succ, Option.some.injEq] at hf hq
  subst hf; subst hq
  exact d2.out.below bb
 simp at hf
theorem fields4 (w : World) : Calls Tryz.prog 18 #[.int .i64 4] w fun e w' => ∃ s A n c, e = .returned (.tuple #[.string s, .slice A n c, .bool true]) ∧ FdsW w' A n (kindF 4) ∧ Below w.heap.size w w' := by
 go_enter Tryz.func18, Tryz.ntmps18
 go_wp2_with (fail)
 refine (fd_move _).mono ?_
 rintro e w1 ⟨⟨f1a, f1b, f1c, f1d, f1e, f1f, f1g, f1h, f1i, f1j⟩, rfl, b1, d1⟩
 simp only [fdV]
 have k1 := b1
 skip
 go_wp2_with (fail)
 refine (fd_range _).mono ?_
 rintro e w2 ⟨⟨f2a, f2b, f2c, f2d, f2e, f2f, f2g, f2h, f2i, f2j⟩, rfl, b2, d2⟩
 simp only [fdV]
 have k2 := k1.trans (b2.mono k1.size)
 have d1_2 := (d1).below b2
 skip
 go_wp2_with (fail)
 refine (fd_data _).mono ?_
 rintro e w3 ⟨⟨f3a, f3b, f3c, f3d, f3e, f3f, f3g, f3h, f3i, f3j⟩, rfl, b3, d3⟩
 simp only [fdV]
 have k3 := k2.trans (b3.mono k2.size)
 have d1_3 := (d1_2).below b3
 have d2_3 := (d2).below b3
 skip
 skip
 replace d1_3 := Lh d1_3
 replace d2_3 := Lh d2_3
 replace d3 := Lh d3
 replace k3 := Lh k3
 clear b1 b2 b3 d1 d2 k1 k2 d1_2
 go_wp2_with (fail)
 refine bodyPost_ret (by simp [results, Tryz.results18, go_sem, *]; try with_reducible rfl) rfl ?_
 have bb := (Below.refl w3.heap.size w3).alloc (Nat.le_refl _) (.cells #[.func (.func f1a) #[] f1b, .func (.func f1c) #[] f1d, .func (.func f1e) #[] f1f, .func (.func f1g) #[] f1h, .func (.func f1i) #[] f1j, .func (.func f2a) #[] f2b, .func (.func f2c) #[] f2d, .func (.func f2e) #[] f2f, .func (.func f2g) #[] f2h, .func (.func f2i) #[] f2j, .func (.func f3a) #[] f3b, .func (.func f3c) #[] f3d, .func (.func f3e) #[] f3f, .func (.func f3g) #[] f3h, .func (.func f3i) #[] f3j] 77)
 refine ⟨_, _, _, _, rfl, ⟨[⟨f1a, f1b, f1c, f1d, f1e, f1f, f1g, f1h, f1i, f1j⟩, ⟨f2a, f2b, f2c, f2d, f2e, f2f, f2g, f2h, f2i, f2j⟩, ⟨f3a, f3b, f3c, f3d, f3e, f3f, f3g, f3h, f3i, f3j⟩], SL.row5 (hpNew _ _) rfl, rfl, ?_⟩, k3.out.alloc k3.out.size _⟩
 intro i f q hf hq
 have kq : kindF 4 = [(fun c => decide (1 ≤ c.mv) && decide (c.mv ≤ 64), fun c => { c with mv := 0 }), (fun c => okG c.r, fun c => { c with r := (noText, noText) }), (fun c => decide (c.dat.size ≤ 65536), fun c => { c with dat := noText })] := rfl
 rw [kq] at hq
 clear kq
 rcases i with _ | i
 ·
  simp only [List.getElem?_cons_zero, List.getElem?_cons_succ, Option.some.injEq] at hf hq
  subst hf; subst hq
  exact d1_3.out.below bb
 rcases i with _ | i
 ·
  simp only [List.getElem?_cons_zero, List.getElem?_cons_succ, Option.some.injEq] at hf hq
  subst hf; subst hq
  exact d2_3.out.below bb
 rcases i with _ | i
 ·
  simp only [List.getElem?_cons_zero, List.getElem?_cons_succ, Option.some.injEq] at hf hq
  subst hf; subst hq
  exact d3.out.below bb
 simp at hf
end Go.Proofs.YtgnjnpddehdmcaaGreatDoor
