/- The program's table: what it is; whether there is one; where an effect is. -/
import Derived.Test.YtkdfhackpmdgfaaGreatDoorSearch
import Derived.Test.YtkdfhackpmdgfaaGreatDoorChgW
namespace Go.Proofs.YtkdfhackpmdgfaaGreatDoor
open Go.RowKit Go.Shelf
set_option linter.unusedSimpArgs false
set_option linter.unusedVariables false
set_option linter.unusedSectionVars false
set_option maxRecDepth 10000
/-- A table of the program: its block, its row of entries, both of the call's own (from base on). -/
structure TabP (base : Nat) (D : Nat) (size : Int) (A : Option Addr) (c : Nat) (P : List En) (W : World) : Prop where
  ge : base ≤ D
  blk : W.heap[D]? = some (.cells #[.bool true, .int .i64 size, .slice A P.length c] 64 (0, 0))
  own : W.ownsRow base 67 7 (.slice A P.length c) P.length (flat encP P)
  le : (P.length : Int) ≤ size
  sz : size ≤ 2048
section
variable {base D c : Nat} {size : Int} {A : Option Addr} {P : List En} {w W W' : World}
theorem TabP.ps (h : TabP base D size A c P W) : PS W A P.length P := SL.of_own encP_len h.own rfl
theorem TabP.lt (h : TabP base D size A c P W) : D < W.heap.size := blkX h.blk
theorem TabP.rowLt (h : TabP base D size A c P W) : ∀ g, rowOf A = some g → base ≤ g ∧ g < W.heap.size := own_row h.own
theorem TabP.cap (h : TabP base D size A c P W) : P.length ≤ c := by
  obtain ⟨A', c', e, hc⟩ := own_shape h.own
  injection e with _ _ e
  omega
theorem TabP.rowNe (h : TabP base D size A c P W) {g : Nat} {cs : Array Value} {T : TypeId} {f : Nat × Nat} (hg : W.heap[g]? = some (.cells cs T f)) (hT : T ≠ 67) : rowOf A ≠ some g := by
  intro q
  rcases h.own.2 with ⟨e, _⟩ | ⟨g', cap, cur, e, _, hh, _⟩
  · injection e with e; rw [e] at q; cases q
  · injection e with e
    rw [e] at q
    injection q with q
    subst q
    rw [hg] at hh
    injection hh with hh
    injection hh with _ hh
    exact hT hh
theorem TabP.keep (h : TabP base D size A c P W) (hs : W.heap.size ≤ W'.heap.size) (hk : ∀ k, k < W.heap.size → (k = D ∨ rowOf A = some k) → W'.heap[k]? = W.heap[k]?) : TabP base D size A c P W' :=
  ⟨h.ge, (hk D h.lt (.inl rfl)).trans h.blk, by
    rcases h.own.2 with e | ⟨g, cp, cur, e1, e2, hh, r⟩
    · exact ⟨h.own.1, .inl e⟩
    · exact ⟨h.own.1, .inr ⟨g, cp, cur, e1, e2, (hk g (blkX hh) (.inr (by injection e1 with e1; rw [e1]; rfl))).trans hh, r⟩⟩, h.le, h.sz⟩
theorem TabP.below (h : TabP base D size A c P W) (hb : Below W.heap.size W W') : TabP base D size A c P W' := h.keep hb.size fun k hk _ => hb.block k hk
theorem TabP.chg {S : Nat → Prop} (h : TabP base D size A c P W) (hc : Chg S W W') (hS : ∀ k, k = D ∨ rowOf A = some k → ¬ S k) : TabP base D size A c P W' := h.keep hc.size fun k hk q => hc.block k hk (hS k q)
end
theorem valid_any {base D c : Nat} {size : Int} {A : Option Addr} {P : List En} {w : World} (h : TabP base D size A c P w) : Calls Tryz.prog 23 #[.pointer (some ⟨D, 0, none⟩)] w fun e w' => e = .returned (.bool true) ∧ w' = w := by
  have c0 := blkC h.blk 0
  simp only [List.getElem?_toArray, List.getElem?_cons_zero, List.getElem?_cons_succ] at c0
  replace h := Lib.hid h
  go_enter Tryz.func23, Tryz.ntmps23
  go_wp2
  go_ret
  exact ⟨rfl, rfl⟩
theorem okR_def (a b : Int) (s : ByteArray) : okR (a, b, s) = (decide (0 ≤ a) && decide (a ≤ 18) && decide (-1152921504606846976 ≤ b) && decide (b ≤ 1152921504606846976) && decide (s.size ≤ 65536)) := by
  simp only [okR, Bool.and_assoc]
set_option maxHeartbeats 1000000 in
theorem isReply_any (a b : Int) (s : ByteArray) (w : World) : Calls Tryz.prog 36 #[.agg #[.int .i64 a, .int .i64 b, .string s]] w fun e w' => e = .returned (.bool (okR (a, b, s))) ∧ Below w.heap.size w w' := by
  rw [okR_def]
  go_enter Tryz.func36, Tryz.ntmps36
  go_wp2
  all_goals
    go_ret
    refine ⟨ret_bool (by simp [*] <;> omega), ?_⟩
    repeat (first | exact Below.refl _ _ | (refine Below.alloc ?_ (by simp) _))
set_option maxHeartbeats 4000000 in
theorem find_any {base D c : Nat} {size : Int} {A : Option Addr} {P : List En} {w : World} (h : TabP base D size A c P w) (ho : Ord P) (y : Ef) : Calls Tryz.prog 37 #[.pointer (some ⟨D, 0, none⟩), .agg #[.int .i64 y.1, .int .i64 y.2.1, .int .i64 y.2.2]] w fun e w' => e = .returned (.tuple #[.int .i64 (pos P y : Nat), .bool (hasB P y)]) ∧ Below w.heap.size w w' := by
  have kb := (Below.refl w.heap.size w).alloc (Nat.le_refl _) (.cells #[.int .i64 y.1, .int .i64 y.2.1, .int .i64 y.2.2] 39)
  have hT := h.below kb
  have hnew := hpNew w (.cells #[.int .i64 y.1, .int .i64 y.2.1, .int .i64 y.2.2] 39)
  obtain ⟨W1, hW1⟩ : ∃ W1, W1 = w.alloc (.cells #[.int .i64 y.1, .int .i64 y.2.1, .int .i64 y.2.2] 39) := ⟨_, rfl⟩
  rw [← hW1] at kb hT hnew
  have hv := valid_any hT
  have hs := search_any A P.length c P y W1.drew (hT.below ((Below.refl _ W1).drew)).ps ho (by have := h.le; have := h.sz; omega)
  have t0 := blkC hnew 0; have t1 := blkC hnew 1; have t2 := blkC hnew 2
  have c2 := blkC hT.blk 2
  simp only [List.getElem?_toArray, List.getElem?_cons_zero, List.getElem?_cons_succ] at t0 t1 t2 c2
  replace h := Lib.hid h; replace kb := Lib.hid kb; replace hT := Lib.hid hT; replace hnew := Lib.hid hnew
  go_enter Tryz.func37, Tryz.ntmps37
  go_wp2_with (fail)
  rw [← hW1]
  replace hW1 := Lib.hid hW1
  refine hv.mono ?_
  rintro e w2 ⟨rfl, rfl⟩
  go_wp2_with (fail)
  refine wp_region_any (by kernel_rfl) ?_
  try (change wpAny _ _ _ _ _ _ _ (World.drew _))
  refine wpAny_take (i := 0) (v := ?_) rfl (by kernel_rfl) (by kernel_rfl) (by kernel_rfl) (fun _ _ _ h => h) (Or.inl ⟨by rfl, by intro w; go_simp; first | done | with_reducible rfl⟩) ?_
  simp only [List.getElem_toArray, List.getElem_cons_succ, List.getElem_cons_zero, Act.put, List.setIfInBounds_toArray, List.set_cons_zero, List.set_cons_succ]
  refine wpAny_take (i := 1) (v := ?_) rfl (by kernel_rfl) (by kernel_rfl) (by kernel_rfl) (fun _ _ _ h => h) (Or.inl ⟨by rfl, by intro w; go_simp; first | done | with_reducible rfl⟩) ?_
  simp only [List.getElem_toArray, List.getElem_cons_succ, List.getElem_cons_zero, Act.put, List.setIfInBounds_toArray, List.set_cons_zero, List.set_cons_succ]
  refine wpAny_take (i := 2) (v := ?_) rfl (by kernel_rfl) (by kernel_rfl) (by kernel_rfl) (fun _ _ _ h => h) (Or.inl ⟨by rfl, by intro w; go_simp; first | done | with_reducible rfl⟩) ?_
  simp only [List.getElem_toArray, List.getElem_cons_succ, List.getElem_cons_zero, Act.put, List.setIfInBounds_toArray, List.set_cons_zero, List.set_cons_succ]
  refine wpAny_ready (rs := [3, 4]) (by kernel_rfl) (by simp) ?_
  refine AllReady.cons rfl (fun K hK => ?_) ?_
  · have hK' := hK; clear hK; have hK := hK'; clear hK'
    go_simp
    refine hK _ _ ?_
    clear hK K
    refine wpAny_ready (rs := [4]) (by kernel_rfl) (by simp) ?_
    refine AllReady.cons rfl (fun K hK => ?_) ?_
    · have hK' := hK; clear hK; have hK := hK'; clear hK'
      go_simp
      refine hK _ _ ?_
      clear hK K
      refine wpAny_ready (rs := [5]) (by kernel_rfl) (by simp) ?_
      refine AllReady.cons rfl (fun K hK => ?_) ?_
      · have hK' := hK; clear hK; have hK := hK'; clear hK'
        go_simp
        refine hs.mono ?_
        rintro e' w6 ⟨rfl, b6⟩
        have hk6 := Lib.hid ((Below.refl _ w2).drew.trans b6)
        clear b6
        refine hK _ _ ?_
        clear hK K
        refine wpAny_take (i := 6) (v := ?_) rfl (by kernel_rfl) (by kernel_rfl) (by kernel_rfl) (fun _ _ _ h => h) (Or.inl ⟨by rfl, by intro w; go_simp; first | done | with_reducible rfl⟩) ?_
        simp only [List.getElem_toArray, List.getElem_cons_succ, List.getElem_cons_zero, Act.put, List.setIfInBounds_toArray, List.set_cons_zero, List.set_cons_succ]
        refine wpAny_take (i := 7) (v := ?_) rfl (by kernel_rfl) (by kernel_rfl) (by kernel_rfl) (fun _ _ _ h => h) (Or.inl ⟨by rfl, by intro w; go_simp; first | done | with_reducible rfl⟩) ?_
        simp only [List.getElem_toArray, List.getElem_cons_succ, List.getElem_cons_zero, Act.put, List.setIfInBounds_toArray, List.set_cons_zero, List.set_cons_succ]
        refine wpAny_take (i := 8) (v := ?_) rfl (by kernel_rfl) (by kernel_rfl) (by kernel_rfl) (fun _ _ _ h => h) (Or.inl ⟨by rfl, by intro w; go_simp; first | done | with_reducible rfl⟩) ?_
        simp only [List.getElem_toArray, List.getElem_cons_succ, List.getElem_cons_zero, Act.put, List.setIfInBounds_toArray, List.set_cons_zero, List.set_cons_succ]
        refine wpAny_take (i := 9) (v := ?_) rfl (by kernel_rfl) (by kernel_rfl) (by kernel_rfl) (fun _ _ _ h => h) (Or.inl ⟨by rfl, by intro w; go_simp; first | done | with_reducible rfl⟩) ?_
        simp only [List.getElem_toArray, List.getElem_cons_succ, List.getElem_cons_zero, Act.put, List.setIfInBounds_toArray, List.set_cons_zero, List.set_cons_succ]
        refine wpAny_done (by kernel_rfl) ?_ _
        go_wp2_with (fail)
        refine bodyPost_ret (results_tmp2 rfl _ _ _) rfl ?_
        exact ⟨rfl, kb.out.trans (hk6.out.mono kb.out.size)⟩
      exact AllReady.nil
    exact AllReady.nil
  refine AllReady.cons rfl (fun K hK => ?_) ?_
  · have hK' := hK; clear hK; have hK := hK'; clear hK'
    go_simp
    refine hK _ _ ?_
    clear hK K
    refine wpAny_ready (rs := [3]) (by kernel_rfl) (by simp) ?_
    refine AllReady.cons rfl (fun K hK => ?_) ?_
    · have hK' := hK; clear hK; have hK := hK'; clear hK'
      go_simp
      refine hK _ _ ?_
      clear hK K
      refine wpAny_ready (rs := [5]) (by kernel_rfl) (by simp) ?_
      refine AllReady.cons rfl (fun K hK => ?_) ?_
      · have hK' := hK; clear hK; have hK := hK'; clear hK'
        go_simp
        refine hs.mono ?_
        rintro e' w6 ⟨rfl, b6⟩
        have hk6 := Lib.hid ((Below.refl _ w2).drew.trans b6)
        clear b6
        refine hK _ _ ?_
        clear hK K
        refine wpAny_take (i := 6) (v := ?_) rfl (by kernel_rfl) (by kernel_rfl) (by kernel_rfl) (fun _ _ _ h => h) (Or.inl ⟨by rfl, by intro w; go_simp; first | done | with_reducible rfl⟩) ?_
        simp only [List.getElem_toArray, List.getElem_cons_succ, List.getElem_cons_zero, Act.put, List.setIfInBounds_toArray, List.set_cons_zero, List.set_cons_succ]
        refine wpAny_take (i := 7) (v := ?_) rfl (by kernel_rfl) (by kernel_rfl) (by kernel_rfl) (fun _ _ _ h => h) (Or.inl ⟨by rfl, by intro w; go_simp; first | done | with_reducible rfl⟩) ?_
        simp only [List.getElem_toArray, List.getElem_cons_succ, List.getElem_cons_zero, Act.put, List.setIfInBounds_toArray, List.set_cons_zero, List.set_cons_succ]
        refine wpAny_take (i := 8) (v := ?_) rfl (by kernel_rfl) (by kernel_rfl) (by kernel_rfl) (fun _ _ _ h => h) (Or.inl ⟨by rfl, by intro w; go_simp; first | done | with_reducible rfl⟩) ?_
        simp only [List.getElem_toArray, List.getElem_cons_succ, List.getElem_cons_zero, Act.put, List.setIfInBounds_toArray, List.set_cons_zero, List.set_cons_succ]
        refine wpAny_take (i := 9) (v := ?_) rfl (by kernel_rfl) (by kernel_rfl) (by kernel_rfl) (fun _ _ _ h => h) (Or.inl ⟨by rfl, by intro w; go_simp; first | done | with_reducible rfl⟩) ?_
        simp only [List.getElem_toArray, List.getElem_cons_succ, List.getElem_cons_zero, Act.put, List.setIfInBounds_toArray, List.set_cons_zero, List.set_cons_succ]
        refine wpAny_done (by kernel_rfl) ?_ _
        go_wp2_with (fail)
        refine bodyPost_ret (results_tmp2 rfl _ _ _) rfl ?_
        exact ⟨rfl, kb.out.trans (hk6.out.mono kb.out.size)⟩
      exact AllReady.nil
    exact AllReady.nil
  exact AllReady.nil
end Go.Proofs.YtkdfhackpmdgfaaGreatDoor
