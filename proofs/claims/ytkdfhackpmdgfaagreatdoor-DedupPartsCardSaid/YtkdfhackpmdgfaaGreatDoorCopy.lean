/- Clone; the program's Copy. -/
import Derived.Test.YtkdfhackpmdgfaaGreatDoorTake
namespace Go.Proofs.YtkdfhackpmdgfaaGreatDoor
open Go.RowKit Go.Shelf
set_option linter.unusedSimpArgs false
set_option linter.unusedVariables false
set_option linter.unusedSectionVars false
set_option maxRecDepth 10000
attribute [local go_sem ↓] hideAppend
theorem eql_nil (W : World) (A : Option Addr) (n c : Nat) : (binOp .eql 62 (.slice A n c) (.slice none 0 0)).run Tryz.prog W = .ok (.bool A.isNone) W := by
  have h : ∀ d : Nat, (Op.equalIn (d + 1) 62 (.slice A n c) (.slice none 0 0)).run Tryz.prog W = .ok A.isNone W := fun d => by
    cases A <;> simp [Op.equalIn, run_underlying Tryz.underlying62]
  simp only [binOp]
  simp [Op.equal, Op.maxDepth, h 9999]
set_option maxHeartbeats 4000000 in
theorem clone_any {A : Option Addr} {n c : Nat} {l : List En} {w : World} (h : PS w A n l) (hn : n ≤ 5000) :
    Calls Tryz.prog 24 #[.slice A n c] w fun e w' => ∃ A' c', e = .returned (.slice A' n c') ∧ w'.ownsRow w.heap.size 67 7 (.slice A' n c') n (flat encP l) ∧ Below w.heap.size w w' := by
  have hl := h.1
  cases A with
  | none =>
    have h0 : n = 0 := by
      rcases Nat.eq_zero_or_pos n with q | q
      · exact q
      · obtain ⟨b, o, e, _⟩ := h.2 q
        cases e
    subst h0
    have hl0 : l = [] := List.length_eq_zero_iff.1 hl
    subst hl0
    replace h := Lib.hid h
    have hq := fun W => eql_nil W none 0 c
    go_enter Tryz.func24, Tryz.ntmps24
    go_wp2_with (fail)
    go_ret
    exact ⟨none, 0, rfl, ⟨rfl, .inl ⟨rfl, rfl⟩⟩, Below.refl _ _⟩
  | some a =>
    have hq := fun W => eql_nil W (some a) n c
    have kb := (Below.refl w.heap.size w).alloc (Nat.le_refl _) (.cells #[] 67)
    have hnew := hpNew w (.cells #[] 67)
    have hown : (w.alloc (.cells #[] 67)).ownsRow w.heap.size 67 7 (.slice (some ⟨w.heap.size, 0, none⟩) 0 0) 0 (flat encP []) := own_mk (Nat.le_refl _) hnew (Nat.le_refl _) (by unfold maxLen; omega) (by simp) (by simp [flat]) (by simp [flat])
    obtain ⟨A', c', w1, hrun, hcap, hown1, hgr, hat⟩ := append_sl elemP encP_len encP_one (ty := 62) (d := c) hown (by simp) (SL.keep h kb) (by omega) (by omega)
    simp only [Nat.zero_add, List.nil_append] at hrun hown1
    have hbel : Below w.heap.size w w1 := ⟨(hgr.os).trans kb.os, hgr.tape.trans kb.tape, hgr.output.trans kb.output, Nat.le_trans kb.size hgr.size, fun k hk => (hgr.block k (by have := kb.size; omega) fun e => by have e2 : some k = some w.heap.size := e; injection e2 with e2; omega).trans (kb.block k hk)⟩
    replace hown1 := Lib.hid hown1; replace hbel := Lib.hid hbel; replace hgr := Lib.hid hgr; replace hat := Lib.hid hat; replace hown := Lib.hid hown; replace h := Lib.hid h; replace kb := Lib.hid kb; replace hnew := Lib.hid hnew
    go_enter Tryz.func24, Tryz.ntmps24
    go_wp2_with (fail)
    go_ret
    exact ⟨A', c', rfl, hown1.out, hbel.out⟩
theorem tab_boxed {base c n : Nat} {size : Int} {A : Option Addr} {P : List En} {W : World} (hown : W.ownsRow base 67 7 (.slice A n c) n (flat encP P)) (hn : P.length = n) (hb : base ≤ W.heap.size) (hle : (n : Int) ≤ size) (hs : size ≤ 2048) :
    TabP base W.heap.size size A c P (W.alloc (.cells #[.bool true, .int .i64 size, .slice A n c] 64)) := by
  subst hn
  have kb := (Below.refl W.heap.size W).alloc (Nat.le_refl _) (.cells #[.bool true, .int .i64 size, .slice A P.length c] 64)
  refine ⟨hb, hpNew W _, ?_, hle, hs⟩
  rcases hown.2 with e | ⟨g, cp, cur, e1, e2, hh, r⟩
  · exact ⟨hown.1, .inl e⟩
  · exact ⟨hown.1, .inr ⟨g, cp, cur, e1, e2, (kb.block g (blkX hh)).trans hh, r⟩⟩
set_option maxHeartbeats 8000000 in
theorem copy_any {base D c : Nat} {size : Int} {A : Option Addr} {P : List En} {w : World} (h : TabP base D size A c P w) :
    Calls Tryz.prog 7 #[.pointer (some ⟨D, 0, none⟩)] w fun e w' => ∃ D' A' c', e = .returned (.pointer (some ⟨D', 0, none⟩)) ∧ TabP w.heap.size D' size A' c' P w' ∧ Below w.heap.size w w' := by
  have hv := valid_any h
  have hPl : P.length ≤ 5000 := by have := h.le; have := h.sz; omega
  have hc : ∀ W, Below w.heap.size w W → Calls Tryz.prog 24 #[.slice A P.length c] W fun e w' => ∃ A' c', e = .returned (.slice A' P.length c') ∧ w'.ownsRow W.heap.size 67 7 (.slice A' P.length c') P.length (flat encP P) ∧ Below W.heap.size W w' := fun W hb => clone_any (h.below hb).ps hPl
  have c1 := blkC h.blk 1; have c2 := blkC h.blk 2
  simp only [List.getElem?_toArray, List.getElem?_cons_zero, List.getElem?_cons_succ] at c1 c2
  have hDl := h.lt
  replace h := Lib.hid h
  go_enter Tryz.func7, Tryz.ntmps7
  go_wp2_with (fail)
  refine hv.mono ?_
  rintro e w2 ⟨rfl, rfl⟩
  go_wp2_with (fail)
  have hs := hc w2.drew ((Below.refl _ w2).drew)
  clear hc hv
  refine wp_region_any (by kernel_rfl) ?_
  try (change wpAny _ _ _ _ _ _ _ (World.drew _))
  refine wpAny_take (i := 0) (v := ?_) rfl (by kernel_rfl) (by kernel_rfl) (by kernel_rfl) (fun _ _ _ h => h) (Or.inl ⟨by rfl, by intro w; go_simp; first | done | with_reducible rfl⟩) ?_
  simp only [List.getElem_toArray, List.getElem_cons_succ, List.getElem_cons_zero, Act.put, List.setIfInBounds_toArray, List.set_cons_zero, List.set_cons_succ]
  refine wpAny_take (i := 1) (v := ?_) rfl (by kernel_rfl) (by kernel_rfl) (by kernel_rfl) (fun _ _ _ h => h) (Or.inl ⟨by rfl, by intro w; go_simp; first | done | with_reducible rfl⟩) ?_
  simp only [List.getElem_toArray, List.getElem_cons_succ, List.getElem_cons_zero, Act.put, List.setIfInBounds_toArray, List.set_cons_zero, List.set_cons_succ]
  refine wpAny_take (i := 2) (v := ?_) rfl (by kernel_rfl) (by kernel_rfl) (by kernel_rfl) (fun _ _ _ h => h) (Or.inl ⟨by rfl, by intro w; go_simp; first | done | with_reducible rfl⟩) ?_
  simp only [List.getElem_toArray, List.getElem_cons_succ, List.getElem_cons_zero, Act.put, List.setIfInBounds_toArray, List.set_cons_zero, List.set_cons_succ]
  refine wpAny_take (i := 4) (v := ?_) rfl (by kernel_rfl) (by kernel_rfl) (by kernel_rfl) (fun _ _ _ h => h) (Or.inl ⟨by rfl, by intro w; go_simp; first | done | with_reducible rfl⟩) ?_
  simp only [List.getElem_toArray, List.getElem_cons_succ, List.getElem_cons_zero, Act.put, List.setIfInBounds_toArray, List.set_cons_zero, List.set_cons_succ]
  refine wpAny_take (i := 5) (v := ?_) rfl (by kernel_rfl) (by kernel_rfl) (by kernel_rfl) (fun _ _ _ h => h) (Or.inl ⟨by rfl, by intro w; go_simp; first | done | with_reducible rfl⟩) ?_
  simp only [List.getElem_toArray, List.getElem_cons_succ, List.getElem_cons_zero, Act.put, List.setIfInBounds_toArray, List.set_cons_zero, List.set_cons_succ]
  refine wpAny_take (i := 6) (v := ?_) rfl (by kernel_rfl) (by kernel_rfl) (by kernel_rfl) (fun _ _ _ h => h) (Or.inl ⟨by rfl, by intro w; go_simp; first | done | with_reducible rfl⟩) ?_
  simp only [List.getElem_toArray, List.getElem_cons_succ, List.getElem_cons_zero, Act.put, List.setIfInBounds_toArray, List.set_cons_zero, List.set_cons_succ]
  refine wpAny_ready (rs := [3, 7]) (by kernel_rfl) (by simp) ?_
  refine AllReady.cons rfl (fun K hK => ?_) ?_
  · have hK' := hK; clear hK; have hK := hK'; clear hK'
    go_simp
    refine hK _ _ ?_
    clear hK K
    refine wpAny_ready (rs := [7]) (by kernel_rfl) (by simp) ?_
    refine AllReady.cons rfl (fun K hK => ?_) ?_
    · have hK' := hK; clear hK; have hK := hK'; clear hK'
      go_simp
      refine hK _ _ ?_
      clear hK K
      refine wpAny_ready (rs := [8]) (by kernel_rfl) (by simp) ?_
      refine AllReady.cons rfl (fun K hK => ?_) ?_
      · have hK' := hK; clear hK; have hK := hK'; clear hK'
        go_simp
        refine hs.mono ?_
        rintro e' w6 ⟨A', c', rfl, ho6, b6⟩
        have hk6 := (Below.refl _ w2).drew.trans b6
        have c1 := (hk6.cell (p := ⟨D, 1, none⟩) hDl).trans c1
        replace hk6 := Lib.hid hk6
        have ho6 := Lib.hid ho6
        clear b6
        refine hK _ _ ?_
        clear hK K
        refine wpAny_take (i := 9) (v := ?_) rfl (by kernel_rfl) (by kernel_rfl) (by kernel_rfl) (fun _ _ _ h => h) (Or.inl ⟨by rfl, by intro w; go_simp; first | done | with_reducible rfl⟩) ?_
        simp only [List.getElem_toArray, List.getElem_cons_succ, List.getElem_cons_zero, Act.put, List.setIfInBounds_toArray, List.set_cons_zero, List.set_cons_succ]
        refine wpAny_ready (rs := [10]) (by kernel_rfl) (by simp) ?_
        refine AllReady.cons rfl (fun K hK => ?_) ?_
        · have hK' := hK; clear hK; have hK := hK'; clear hK'
          go_simp
          refine hK _ _ ?_
          clear hK K
          refine wpAny_take (i := 11) (v := ?_) rfl (by kernel_rfl) (by kernel_rfl) (by kernel_rfl) (fun _ _ _ h => h) (Or.inl ⟨by rfl, by intro w; go_simp; first | done | with_reducible rfl⟩) ?_
          simp only [List.getElem_toArray, List.getElem_cons_succ, List.getElem_cons_zero, Act.put, List.setIfInBounds_toArray, List.set_cons_zero, List.set_cons_succ]
          refine wpAny_done (by kernel_rfl) ?_ _
          go_wp2_with (fail)
          go_ret
          exact ⟨_, A', c', rfl, tab_boxed ho6.out rfl hk6.out.size h.out.le h.out.sz, hk6.out.alloc hk6.out.size _⟩
        exact AllReady.nil
      exact AllReady.nil
    exact AllReady.nil
  refine AllReady.cons rfl (fun K hK => ?_) ?_
  · have hK' := hK; clear hK; have hK := hK'; clear hK'
    go_simp
    refine hK _ _ ?_
    clear hK K
    refine wpAny_ready (rs := [3, 8]) (by kernel_rfl) (by simp) ?_
    refine AllReady.cons rfl (fun K hK => ?_) ?_
    · have hK' := hK; clear hK; have hK := hK'; clear hK'
      go_simp
      refine hK _ _ ?_
      clear hK K
      refine wpAny_ready (rs := [8]) (by kernel_rfl) (by simp) ?_
      refine AllReady.cons rfl (fun K hK => ?_) ?_
      · have hK' := hK; clear hK; have hK := hK'; clear hK'
        go_simp
        refine hs.mono ?_
        rintro e' w6 ⟨A', c', rfl, ho6, b6⟩
        have hk6 := (Below.refl _ w2).drew.trans b6
        have c1 := (hk6.cell (p := ⟨D, 1, none⟩) hDl).trans c1
        replace hk6 := Lib.hid hk6
        have ho6 := Lib.hid ho6
        clear b6
        refine hK _ _ ?_
        clear hK K
        refine wpAny_take (i := 9) (v := ?_) rfl (by kernel_rfl) (by kernel_rfl) (by kernel_rfl) (fun _ _ _ h => h) (Or.inl ⟨by rfl, by intro w; go_simp; first | done | with_reducible rfl⟩) ?_
        simp only [List.getElem_toArray, List.getElem_cons_succ, List.getElem_cons_zero, Act.put, List.setIfInBounds_toArray, List.set_cons_zero, List.set_cons_succ]
        refine wpAny_ready (rs := [10]) (by kernel_rfl) (by simp) ?_
        refine AllReady.cons rfl (fun K hK => ?_) ?_
        · have hK' := hK; clear hK; have hK := hK'; clear hK'
          go_simp
          refine hK _ _ ?_
          clear hK K
          refine wpAny_take (i := 11) (v := ?_) rfl (by kernel_rfl) (by kernel_rfl) (by kernel_rfl) (fun _ _ _ h => h) (Or.inl ⟨by rfl, by intro w; go_simp; first | done | with_reducible rfl⟩) ?_
          simp only [List.getElem_toArray, List.getElem_cons_succ, List.getElem_cons_zero, Act.put, List.setIfInBounds_toArray, List.set_cons_zero, List.set_cons_succ]
          refine wpAny_done (by kernel_rfl) ?_ _
          go_wp2_with (fail)
          go_ret
          exact ⟨_, A', c', rfl, tab_boxed ho6.out rfl hk6.out.size h.out.le h.out.sz, hk6.out.alloc hk6.out.size _⟩
        exact AllReady.nil
      exact AllReady.nil
    refine AllReady.cons rfl (fun K hK => ?_) ?_
    · have hK' := hK; clear hK; have hK := hK'; clear hK'
      go_simp
      refine hs.mono ?_
      rintro e' w6 ⟨A', c', rfl, ho6, b6⟩
      have hk6 := (Below.refl _ w2).drew.trans b6
      have c1 := (hk6.cell (p := ⟨D, 1, none⟩) hDl).trans c1
      replace hk6 := Lib.hid hk6
      have ho6 := Lib.hid ho6
      clear b6
      refine hK _ _ ?_
      clear hK K
      refine wpAny_ready (rs := [3]) (by kernel_rfl) (by simp) ?_
      refine AllReady.cons rfl (fun K hK => ?_) ?_
      · have hK' := hK; clear hK; have hK := hK'; clear hK'
        go_simp
        refine hK _ _ ?_
        clear hK K
        refine wpAny_take (i := 9) (v := ?_) rfl (by kernel_rfl) (by kernel_rfl) (by kernel_rfl) (fun _ _ _ h => h) (Or.inl ⟨by rfl, by intro w; go_simp; first | done | with_reducible rfl⟩) ?_
        simp only [List.getElem_toArray, List.getElem_cons_succ, List.getElem_cons_zero, Act.put, List.setIfInBounds_toArray, List.set_cons_zero, List.set_cons_succ]
        refine wpAny_ready (rs := [10]) (by kernel_rfl) (by simp) ?_
        refine AllReady.cons rfl (fun K hK => ?_) ?_
        · have hK' := hK; clear hK; have hK := hK'; clear hK'
          go_simp
          refine hK _ _ ?_
          clear hK K
          refine wpAny_take (i := 11) (v := ?_) rfl (by kernel_rfl) (by kernel_rfl) (by kernel_rfl) (fun _ _ _ h => h) (Or.inl ⟨by rfl, by intro w; go_simp; first | done | with_reducible rfl⟩) ?_
          simp only [List.getElem_toArray, List.getElem_cons_succ, List.getElem_cons_zero, Act.put, List.setIfInBounds_toArray, List.set_cons_zero, List.set_cons_succ]
          refine wpAny_done (by kernel_rfl) ?_ _
          go_wp2_with (fail)
          go_ret
          exact ⟨_, A', c', rfl, tab_boxed ho6.out rfl hk6.out.size h.out.le h.out.sz, hk6.out.alloc hk6.out.size _⟩
        exact AllReady.nil
      exact AllReady.nil
    exact AllReady.nil
  exact AllReady.nil
end Go.Proofs.YtkdfhackpmdgfaaGreatDoor
