/- The document's Copy. -/
import Derived.Test.YtkdfhackpmdgfaaDoorROwr
namespace Go.Proofs.YtkdfhackpmdgfaaDoor
open Go.RowKit Go.Shelf
set_option linter.unusedSimpArgs false
set_option linter.unusedVariables false
set_option linter.unusedSectionVars false
set_option maxRecDepth 10000
attribute [local go_sem ↓] hideAppend
set_option maxHeartbeats 8000000 in
theorem rcopy_any {base D c : Nat} {size : Int} {A : Option Addr} {P : List En} {w : World} (h : TabR base D size A c P w) :
    Calls Tryd.prog 21 #[.pointer (some ⟨D, 0, none⟩)] w fun e w' => ∃ D' A' c', e = .returned (.pointer (some ⟨D', 0, none⟩)) ∧ TabR w.heap.size D' size A' c' P w' ∧ Below w.heap.size w w' := by
  have hln : P.length ≤ 2048 := by have := h.le; have := h.sz; omega
  have hle := h.le; have hsz := h.sz
  have hSv : ∀ V : World, Below w.heap.size w V → (V.cell? ⟨D, 0, none⟩ = some (.int .i64 size) ∧ V.cell? ⟨D, 1, none⟩ = some (.slice A P.length c)) := by
    intro V hb
    have hT := h.below hb
    exact ⟨blkC hT.blk 0, blkC hT.blk 1⟩
  replace hSv := Lib.hid hSv; replace h := Lib.hid h
  go_enter Tryd.func21, Tryd.ntmps21
  go_wp2_with (fail)
  refine wp_region_held_drew (S := (fun w' : World => w'.cell? ⟨D, 0, none⟩ = some (.int .i64 size) ∧ w'.cell? ⟨D, 1, none⟩ = some (.slice A P.length c))) (by kernel_rfl) ?_ (fun hH => ?_)
  · exact hSv.out _ (Below.refl _ w).drew
  refine wpAnyH_take (i := 0) (v := ?_) rfl (by kernel_rfl) (by kernel_rfl) (by kernel_rfl) (fun _ _ _ h => h) (Or.inl ⟨by rfl, by intro w hSw; go_simp; first | done | with_reducible rfl⟩) hH ?_
  simp only [List.getElem_toArray, List.getElem_cons_succ, List.getElem_cons_zero, Act.put, List.setIfInBounds_toArray, List.set_cons_zero, List.set_cons_succ]
  refine wpAnyH_take (i := 1) (v := ?_) rfl (by kernel_rfl) (by kernel_rfl) (by kernel_rfl) (fun _ _ _ h => h) (Or.inl ⟨by rfl, by intro w hSw; go_simp; first | done | with_reducible rfl⟩) hH ?_
  simp only [List.getElem_toArray, List.getElem_cons_succ, List.getElem_cons_zero, Act.put, List.setIfInBounds_toArray, List.set_cons_zero, List.set_cons_succ]
  refine wpAnyH_take (i := 2) (v := ?_) rfl (by kernel_rfl) (by kernel_rfl) (by kernel_rfl) (fun _ _ _ h => h) (Or.inl ⟨by rfl, by intro w hSw; go_simp; first | done | with_reducible rfl⟩) hH ?_
  simp only [List.getElem_toArray, List.getElem_cons_succ, List.getElem_cons_zero, Act.put, List.setIfInBounds_toArray, List.set_cons_zero, List.set_cons_succ]
  refine wpAnyH_take (i := 3) (v := ?_) rfl (by kernel_rfl) (by kernel_rfl) (by kernel_rfl) (fun _ _ _ h => h) (Or.inl ⟨by rfl, by intro w hSw; obtain ⟨s0, s1⟩ := hSw; go_simp; first | done | with_reducible rfl⟩) hH ?_
  simp only [List.getElem_toArray, List.getElem_cons_succ, List.getElem_cons_zero, Act.put, List.setIfInBounds_toArray, List.set_cons_zero, List.set_cons_succ]
  refine wpAnyH_take (i := 5) (v := ?_) rfl (by kernel_rfl) (by kernel_rfl) (by kernel_rfl) (fun _ _ _ h => h) (Or.inl ⟨by rfl, by intro w hSw; go_simp; first | done | with_reducible rfl⟩) hH ?_
  simp only [List.getElem_toArray, List.getElem_cons_succ, List.getElem_cons_zero, Act.put, List.setIfInBounds_toArray, List.set_cons_zero, List.set_cons_succ]
  refine wpAnyH_take (i := 6) (v := ?_) rfl (by kernel_rfl) (by kernel_rfl) (by kernel_rfl) (fun _ _ _ h => h) (Or.inl ⟨by rfl, by intro w hSw; go_simp; first | done | with_reducible rfl⟩) hH ?_
  simp only [List.getElem_toArray, List.getElem_cons_succ, List.getElem_cons_zero, Act.put, List.setIfInBounds_toArray, List.set_cons_zero, List.set_cons_succ]
  refine wpAnyH_take (i := 7) (v := ?_) rfl (by kernel_rfl) (by kernel_rfl) (by kernel_rfl) (fun _ _ _ h => h) (Or.inl ⟨by rfl, by intro w hSw; go_simp; first | done | with_reducible rfl⟩) hH ?_
  simp only [List.getElem_toArray, List.getElem_cons_succ, List.getElem_cons_zero, Act.put, List.setIfInBounds_toArray, List.set_cons_zero, List.set_cons_succ]
  refine wpAnyH_take (i := 8) (v := ?_) rfl (by kernel_rfl) (by kernel_rfl) (by kernel_rfl) (fun _ _ _ h => h) (Or.inl ⟨by rfl, by intro w hSw; obtain ⟨s0, s1⟩ := hSw; go_simp; first | done | with_reducible rfl⟩) hH ?_
  simp only [List.getElem_toArray, List.getElem_cons_succ, List.getElem_cons_zero, Act.put, List.setIfInBounds_toArray, List.set_cons_zero, List.set_cons_succ]
  refine wpAnyH_ready (rs := [4]) (by kernel_rfl) (by simp) ?_
  refine AllReadyH.cons rfl (fun K hK => ?_) ?_
  · have bb : Below w.heap.size w (w.alloc (.cells #[] 94)).drew := ((Below.refl _ w).alloc (Nat.le_refl _) _).drew
    have h0 : OwnR w (some ⟨w.heap.size, 0, none⟩) 0 0 [] (w.alloc (.cells #[] 94)).drew := ⟨bb, ⟨rfl, .inr ⟨w.heap.size, 0, #[], rfl, Nat.le_refl _, hpNew w _, Nat.le_refl _, Nat.zero_le _, rfl, rfl⟩⟩, rfl⟩
    have hr0 := SL.keep h.out.rs bb
    obtain ⟨A', c', W2, hrun, hcap, hown, hgr, hat⟩ := append_sl elemR encR_len encR_one (ty := 83) (d := c) h0.own bb.size hr0 (by omega) (by omega)
    have hO : OwnR w A' P.length c' P W2 := ⟨bb.trans (below_of_grown hgr bb.size fun g hg => (own_row h0.own g hg).1), by rw [Nat.zero_add] at hown; exact hown, rfl⟩
    rw [Nat.zero_add] at hrun
    replace h0 := Lib.hid h0; replace hr0 := Lib.hid hr0; replace hO := Lib.hid hO
    clear hcap hown hgr hat
    go_simp
    refine hK.out _ _ (hSv.out _ bb) (fun hH => ?_)
    clear hK K
    refine wpAnyH_ready (rs := [9]) (by kernel_rfl) (by simp) ?_
    refine AllReadyH.cons rfl (fun K hK => ?_) ?_
    · clear hH
      go_simp
      refine hK.out _ _ (hSv.out _ hO.out.bel) (fun hH => ?_)
      clear hK K hrun
      refine wpAnyH_take (i := 10) (v := ?_) rfl (by kernel_rfl) (by kernel_rfl) (by kernel_rfl) (fun _ _ _ h => h) (Or.inl ⟨by rfl, by intro w hSw; go_simp; first | done | with_reducible rfl⟩) hH ?_
      simp only [List.getElem_toArray, List.getElem_cons_succ, List.getElem_cons_zero, Act.put, List.setIfInBounds_toArray, List.set_cons_zero, List.set_cons_succ]
      refine wpAnyH_ready (rs := [11]) (by kernel_rfl) (by simp) ?_
      refine AllReadyH.cons rfl (fun K hK => ?_) ?_
      · clear hH
        have b3 := (Below.refl _ W2).alloc (Nat.le_refl _) (.cells #[.int .i64 size, .slice A' P.length c'] 85)
        have hn := hpNew W2 (.cells #[.int .i64 size, .slice A' P.length c'] 85)
        have hO3 := hO.out.below b3
        have hT3 := (show TabR w.heap.size W2.heap.size size A' c' P _ from ⟨hO.out.bel.size, hn, hO3.own, hle, hsz⟩)
        have hb3 := hO3.bel
        replace hT3 := Lib.hid hT3; replace hb3 := Lib.hid hb3; replace hO3 := Lib.hid hO3; replace hn := Lib.hid hn; replace b3 := Lib.hid b3
        go_simp
        refine hK.out _ _ (hSv.out _ hb3.out) (fun hH => ?_)
        clear hK K
        refine wpAnyH_take (i := 12) (v := ?_) rfl (by kernel_rfl) (by kernel_rfl) (by kernel_rfl) (fun _ _ _ h => h) (Or.inl ⟨by rfl, by intro w hSw; go_simp; first | done | with_reducible rfl⟩) hH ?_
        simp only [List.getElem_toArray, List.getElem_cons_succ, List.getElem_cons_zero, Act.put, List.setIfInBounds_toArray, List.set_cons_zero, List.set_cons_succ]
        refine wpAnyH_done (by kernel_rfl) ?_ _
        go_wp2_with (fail)
        go_ret
        exact ⟨_, A', c', rfl, hT3.out, hb3.out⟩
      exact AllReadyH.nil
    exact AllReadyH.nil
  exact AllReadyH.nil
end Go.Proofs.YtkdfhackpmdgfaaDoor
