/- slices.SortFunc at effects. -/
import Derived.Test.YtkdfhackpmdgfaaGreatDoorOrd
import Derived.Test.YtkdfhackpmdgfaaGreatDoorDedP
import Derived.Test.YtkdfhackpmdgfaaGreatDoorRowK
import Derived.Test.YtkdfhackpmdgfaaGreatDoorRangeM
import Derived.Test.YtkdfhackpmdgfaaGreatDoorShelfS
import Derived.StillTailTactics
import Derived.Deep.QuietTactic
import Derived.BigQuiet
import Derived.Deep.RegionWith
namespace Go.Proofs.YtkdfhackpmdgfaaGreatDoor
open Go.RowKit Go.Shelf Go.Sort
set_option linter.unusedSimpArgs false
set_option linter.unusedVariables false
set_option linter.unusedSectionVars false
set_option maxRecDepth 10000
theorem own_keepG {w W : World} {base n c : Nat} {e : TypeId} {sz : Nat} {A : Option Addr} {xs : List Value} (h : w.ownsRow base e sz (.slice A n c) n xs) (hb : Below w.heap.size w W) : W.ownsRow base e sz (.slice A n c) n xs := by
  rcases h.2 with ⟨e1, e2⟩ | ⟨g, cp, cur, e1, e2, hh, r⟩
  · exact ⟨h.1, .inl ⟨e1, e2⟩⟩
  · exact ⟨h.1, .inr ⟨g, cp, cur, e1, e2, (hb.block g (Array.getElem?_eq_some_iff.1 hh).1).trans hh, r⟩⟩
/-- A row of effects of the call's own, over what was there. -/
theorem ltOf_cmpE : ltOf cmpE = efLt := by
  funext x y
  rw [Bool.eq_iff_iff, efLt_ii]
  have h0 : ltOf cmpE x y = true ↔ cmpE x y < 0 := by simp [ltOf]
  rw [h0]
  unfold cmpE
  by_cases h1 : x.1 = y.1
  · rw [if_pos (cmpI_zero.2 h1)]
    by_cases h2 : x.2.1 = y.2.1
    · rw [if_pos (cmpI_zero.2 h2), cmpI_neg]; omega
    · rw [if_neg (fun e => h2 (cmpI_zero.1 e)), cmpI_neg]; omega
  · rw [if_neg (fun e => h1 (cmpI_zero.1 e)), cmpI_neg]; omega
theorem swoE : SWO (ltOf cmpE) := by
  rw [ltOf_cmpE]
  have hn : ∀ x y, efLt x y = false ↔ ¬ (x.1 < y.1 ∨ (x.1 = y.1 ∧ (x.2.1 < y.2.1 ∨ (x.2.1 = y.2.1 ∧ x.2.2 < y.2.2)))) := fun x y => by
    rw [← efLt_ii, Bool.not_eq_true]
  refine ⟨fun x => ?_, fun x y z => ?_, fun x y z => ?_⟩
  · rw [hn]; omega
  · rw [efLt_ii, efLt_ii, efLt_ii]; omega
  · rw [hn, hn, hn]; omega
theorem grown_grow (W : World) (os : Array Obj) : W.grownBy (grow W os) none := ⟨rfl, rfl, rfl, by simp [grow], fun k hk _ => by simp only [grow]; rw [Array.getElem?_append_left hk]⟩
set_option maxHeartbeats 1000000 in
theorem order_grow (x y : Ef) (w : World) : Calls Tryz.prog 11 #[.agg #[.int .i64 x.1, .int .i64 x.2.1, .int .i64 x.2.2], .agg #[.int .i64 y.1, .int .i64 y.2.1, .int .i64 y.2.2]] w fun e w' => e = .returned (.int .i64 (cmpE x y)) ∧ ∃ q os', w' = grow (w.drewN q) os' := by
  obtain ⟨a, b, c⟩ := x
  obtain ⟨d, e, f⟩ := y
  simp only
  have hfin : firstI (cmpI a d) (cmpI b e) (cmpI c f) = cmpE (a, b, c) (d, e, f) := rfl
  generalize cmpE (a, b, c) (d, e, f) = z at *
  replace hfin := Lib.hid hfin
  go_enter Tryz.func11, Tryz.ntmps11
  go_wp2
  obtain ⟨W, hW⟩ : ∃ W, (w.alloc (.cells #[.int .i64 a, .int .i64 b, .int .i64 c] 39)).alloc (.cells #[.int .i64 d, .int .i64 e, .int .i64 f] 39) = W := ⟨_, rfl⟩
  have h1 : W.heap[w.heap.size]? = some (.cells #[.int .i64 a, .int .i64 b, .int .i64 c] 39 (0, 0)) := by rw [← hW]; exact (hpOld _ (by simp)).trans (hpNew w _)
  have h2 : W.heap[w.heap.size + 1]? = some (.cells #[.int .i64 d, .int .i64 e, .int .i64 f] 39 (0, 0)) := by rw [← hW]; exact hpNewAt _ (by simp)
  have c0 := blkC h1 0; have c1 := blkC h1 1; have c2 := blkC h1 2; have d0 := blkC h2 0; have d1 := blkC h2 1; have d2 := blkC h2 2
  rw [hW]
  have HW := Lib.hid hW
  clear hW h1 h2
  go_still_tail 15, (by kernel_rfl)
  still_call ((cmp_any _ _ _).mono fun _ _ ⟨he, hw⟩ => ⟨he, hw.symm⟩)
  repeat still_step
  still_call ((cmp_any _ _ _).mono fun _ _ ⟨he, hw⟩ => ⟨he, hw.symm⟩)
  repeat still_step
  still_call ((cmp_any _ _ _).mono fun _ _ ⟨he, hw⟩ => ⟨he, hw.symm⟩)
  repeat still_step
  refine wpStill_nil ?_
  go_wp2_with (fail)
  refine (or_any (cmpI a d) (cmpI b e) (cmpI c f) _ _ ((cell_new_at rfl).trans rfl) ((cell_new_at rfl).trans rfl) ((cell_new_at rfl).trans rfl)).mono ?_
  rintro e w' ⟨rfl, rfl⟩
  go_wp2_with (fail)
  go_ret
  refine ⟨ret_int hfin.out, ?_⟩
  rw [← HW.out]
  refine ⟨1, #[.cells #[.int .i64 a, .int .i64 b, .int .i64 c] 39] ++ #[.cells #[.int .i64 d, .int .i64 e, .int .i64 f] 39] ++ #[.cells #[.int .i64 (cmpI a d), .int .i64 (cmpI b e), .int .i64 (cmpI c f)] 3], ?_⟩
  rw [alloc_eq_grow, alloc_eq_grow, alloc_eq_grow, grow_grow, grow_grow]
  rfl
theorem cmpLaysE (blk off size : Nat) (w : World) : CmpLays Tryz.prog 11 #[] encE 3 cmpE blk off size w := fun _ _ _ _ x y => order_grow x y _

def sortE (l : List Ef) : List Ef := l.mergeSort fun x y => !efLt y x
theorem sortE_len (l : List Ef) : (sortE l).length = l.length := by rw [sortE, List.length_mergeSort]
theorem sort_any {base : Nat} {W : World} {A : Option Addr} {n c : Nat} {l : List Ef} (hbase : base ≤ W.heap.size) (h : W.ownsRow base 39 3 (.slice A n c) n (flat encE l)) (hlen0 : l.length = n) (hn : n ≤ 1000000) :
    Calls Tryz.prog 10 #[.slice A n c, .func (.func 11) #[] #[]] W fun e w' => e = .returned (.tuple #[]) ∧ w'.ownsRow base 39 3 (.slice A n c) n (flat encE (sortE l)) ∧ W.grownBy w' (rowOf A) := by
  rcases Nat.eq_zero_or_pos n with h0 | h0
  · subst h0
    have hl : l = [] := List.eq_nil_of_length_eq_zero hlen0
    subst hl
    refine (Tryz.slices_SortFunc_E_none A c _ W).mono ?_
    rintro e w' ⟨rfl, rfl⟩
    exact ⟨rfl, by rw [show sortE [] = [] from by simp [sortE]]; exact h, ⟨rfl, rfl, rfl, Nat.le_refl _, fun _ _ _ => rfl⟩⟩
  · obtain ⟨g, rfl, hg, hlt⟩ : ∃ g, A = some ⟨g, 0, none⟩ ∧ base ≤ g ∧ g < W.heap.size := by
      rcases h.2 with ⟨_, e⟩ | ⟨g, cp, cur, e, hb, hh, _⟩
      · omega
      · simp only [Value.slice.injEq, true_and] at e
        exact ⟨g, e.1, hb, (Array.getElem?_eq_some_iff.1 hh).1⟩
    have hsz : l.toArray.size = n := by simp [hlen0]
    have hc := Tryz.slices_SortFunc_E encE encE_len encE_one cmpE swoE 11 #[] g 0 c l.toArray W (enters_of Tryz.func11 (by kernel_rfl) rfl) (cmpLaysE _ _ _ _) (holdsK_of_own encE_len (by omega) h hlen0) hlt (by rw [hsz]; omega) (by rw [ltOf_cmpE]; exact efLt_total)
    rw [hsz, ltOf_cmpE] at hc
    refine hc.mono ?_
    rintro e w' ⟨rfl, q, os, rfl⟩
    have hs : (l.toArray.toList.mergeSort fun x y => !efLt y x) = sortE l := rfl
    rw [hs]
    have hlen : (sortE l).length = n := by rw [sortE_len]; exact hlen0
    have hg1 : W.grownBy (putRowK encE 3 (Sort.ahead W q) g 0 (sortE l).toArray) (some g) := grownBy_putRowK _
    have hP : (putRowK encE 3 (Sort.ahead W q) g 0 (sortE l).toArray).ownsRow base 39 3 (.slice (some ⟨g, 0, none⟩) n c) n (flat encE (sortE l)) := own_putRowK encE_len (by omega) h hlen
    have hg2 := grown_grow (putRowK encE 3 (Sort.ahead W q) g 0 (sortE l).toArray) os
    exact ⟨rfl, own_keepG hP (below_of_grown hg2 (Nat.le_refl _) (fun _ e => by cases e)), hg1.trans (grown_any hg2)⟩
end Go.Proofs.YtkdfhackpmdgfaaGreatDoor
