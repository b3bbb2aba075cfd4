/- Next: the program's. -/
import Derived.Test.YthmkfbabacehnaaDoorNextK
namespace Go.Proofs.YthmkfbabacehnaaDoor
open Go.RowKit Go.Shelf
set_option linter.unusedSimpArgs false
set_option linter.unusedVariables false
set_option linter.unusedSectionVars false
set_option maxRecDepth 10000
attribute [local go_sem] Oper.semAt_some
attribute [local go_sem ↓] hideAppend
set_option maxRecDepth 100000 in
set_option maxHeartbeats 8000000 in
theorem next_any (N : Int) (A : Option Addr) (n c : Nat) (l : List Ef) (w : World) (h1 : ES w A n l) (hn : n ≤ 70368744177664) :
    Calls Tryd.prog 16 #[.int .i64 N, .slice A n c] w fun e w' => ∃ A' n' c', e = .returned (.tuple #[.slice A' n' c', .int .i64 (nextP N l).2]) ∧ OwnE w A' n' c' (nextP N l).1 w' := by
  have hl1 := h1.1
  refine (callsIn_wide (n := 5)).1 ?_
  refine callsIn_of_wp_marks Tryd.func16 rfl trivial ?_ rfl
  simp only [Tryd.ntmps16, List.size_toArray, List.length_cons, List.length_nil, Nat.reduceAdd, Nat.reduceSub, Array.replicate_succ, Array.replicate_zero, List.push_toArray, List.append_toArray, List.nil_append, List.cons_append]
  have hb0 := (Below.refl w.heap.size w).alloc (Nat.le_refl _) (.cells #[.slice A n c] 25)
  have hx0 := Boxed.new w 25 (.slice A n c)
  have hs1 : ES (w.alloc (.cells #[.slice A n c] 25)) A n l := SL.keep h1 ((Below.refl _ _).alloc (Nat.le_refl _) _)
  by_cases hk : okL N l = true
  · have hn8 := (okL_iff N l).1 hk
    replace hn8 := hn8.1
    obtain ⟨k, rfl⟩ : ∃ k : Nat, N = k := ⟨N.toNat, by omega⟩
    by_cases hL : best (beg l) (seqs (head l) k) = l.length
    · have e1 : (legalP k l).1 = true := by simp [legalP, hk, hL]
      have e2 : (legalP k l).2.2 = 0 := by simp [legalP, hk]
      have hE : errL k l = 0 := by simp [errL, hk]
      have hH : sagaL k l = head l := by simp [sagaL, hk]
      gi_wp2_with (refine ⟨trivial, ?_⟩; gi_at_call 14; refine (callsIn_wide.2 (legal_any k A n c l _ hs1 hn)).mono ?_; rintro e W1 ⟨rfl, b1⟩; rw [e1, e2]; replace hb0 := hb0.trans (b1.mono (by simp)); replace hx0 : Boxed W1 w.heap.size 25 (.slice A n c) := (b1.block _ hx0.lt).trans hx0; replace hs1 := SL.keep hs1 b1; clear b1; have q3 := hx0.cell)
      gi_wp2_with (refine ⟨trivial, ?_⟩; gi_at_call 24; refine (callsIn_wide.2 (allowed_any k A n c l _ hs1 hn)).mono ?_; rintro e W2 ⟨rfl, b2⟩; rw [hE, hH])
      have hG : LN w (.slice A n c) W2.heap.size none 0 0 [] (W2.alloc (.cells #[.slice none 0 0] 25)) := by
        have hbb := hb0.trans (b2.mono hb0.size)
        have hbc := hbb.alloc hbb.size (.cells #[.slice none 0 0] 25)
        exact ⟨hbc, Boxed.alloc ((b2.block _ hx0.lt).trans hx0) _, Boxed.new _ _ _, ⟨hbc, own_none _ _, rfl, Nat.le_refl _⟩, by omega⟩
      have hb9w : w.heap.size < W2.heap.size := Nat.lt_of_lt_of_le hx0.lt b2.size
      have hbq0 : W2.heap.size < (W2.alloc (.cells #[.slice none 0 0] 25)).heap.size := by simp
      clear q3 hs1 hx0 hb0
      generalize hb9 : W2.heap.size = b9 at *
      generalize hW3 : W2.alloc (.cells #[.slice none 0 0] 25) = W3 at *
      clear b2 hb9 hW3
      gi_wp2_with (refine ⟨trivial, ?_⟩; gi_at_call 23; refine (wholeF_in _ _ _ _).mono ?_; rintro e w2 ⟨rfl, rfl⟩)
      generalize hq : W3.heap.size = q at *
      have hB : Boxed ((W3.alloc (.cells #[.int .i64 (head l)] 3)).alloc (.cells #[.int .i64 (k : Int)] 3)) (q + 1) 3 (.int .i64 (k : Int)) := by
        have := Boxed.new (W3.alloc (.cells #[.int .i64 (head l)] 3)) 3 (.int .i64 (k : Int))
        rwa [World.size_alloc, hq] at this
      have hS : Boxed ((W3.alloc (.cells #[.int .i64 (head l)] 3)).alloc (.cells #[.int .i64 (k : Int)] 3)) q 3 (.int .i64 (head l)) := by
        have := (Boxed.new W3 3 (.int .i64 (head l))).alloc (.cells #[.int .i64 (k : Int)] 3)
        rwa [hq] at this
      have hG2 := (hG.keep ((Below.refl _ _).alloc (Nat.le_refl _) (.cells #[.int .i64 (head l)] 3))).keep ((Below.refl _ _).alloc (Nat.le_refl _) (.cells #[.int .i64 (k : Int)] 3))
      have hsz : ((W3.alloc (.cells #[.int .i64 (head l)] 3)).alloc (.cells #[.int .i64 (k : Int)] 3)).heap.size = q + 2 := by simp [hq]
      generalize (W3.alloc (.cells #[.int .i64 (head l)] 3)).alloc (.cells #[.int .i64 (k : Int)] 3) = W4 at *
      have hM : LM w (.slice A n c) b9 q (head l) k none 0 0 [] W4 := ⟨hG2, hS, hB⟩
      clear hG hG2
      have hk8 : k ≤ 8 := by omega
      generalize hlg : (legalP (k : Int) l).2.1 = lg at *
      refine wpIn_rangeMem rfl (by omega) (gf := 39) (lb := #[.pointer (some ⟨q + 1, 0, none⟩), .pointer (some ⟨q, 0, none⟩)]) rfl trivial (enters_of Tryd.func39 (by kernel_rfl) rfl)
        (whole_seq _ (q + 1) q (head l) k hk8 (by omega) _ hB hS) (fun A => ⟨rfl, rfl⟩) (fun h h' => ⟨h'.1.trans h.1, h'.2.trans h.2⟩) ?kg (fun x vs W0 W1 h => by obtain ⟨A', n', c', rfl, _⟩ := h; rfl) ?ro
        (fun pre W => ∃ A1 n1 c1, LM w (.slice A n c) b9 q (head l) k A1 n1 c1 (candF l pre) W) (fun _ _ _ => False) ?own (fun _ => fun _ _ _ _ h => h.elim) ⟨none, 0, 0, hM⟩
        (fun vs => { tmps := #[.int .i64 k, .slice A n c, undef, .pointer (some ⟨w.heap.size, 0, none⟩),
            .slice none 0 0, .int .i64 0, .bool true, .int .i64 lg, .int .i64 0, .int .i64 (head l), .int .i64 0,
            .pointer (some ⟨b9, 0, none⟩), undef, vs.getD 1 undef, .tuple #[.bool true, .int .i64 lg, .int .i64 0],
            .int .i64 k, .slice A n c, .tuple #[.bool true, .int .i64 lg, .int .i64 0], .bool true, .int .i64 lg, .int .i64 0, .bool false,
            .int .i64 0, .bool false, undef, .bool false, .bool true, .bool false, .tuple #[.int .i64 (head l), .int .i64 0], .int .i64 k,
            .slice A n c, .tuple #[.int .i64 (head l), .int .i64 0], .int .i64 (head l), .int .i64 0, .int .i64 (head l), .int .i64 k,
            .func (.func 39) #[] #[.pointer (some ⟨q + 1, 0, none⟩), .pointer (some ⟨q, 0, none⟩)],
            vs.getD 0 undef, vs.getD 1 undef, undef, undef, undef, undef, undef, undef, undef, undef, undef, undef, undef, undef, undef, undef, undef, undef, undef, undef, undef, undef, undef, undef, undef, undef, undef, undef, undef, undef, undef, undef, undef, undef, undef, undef], defers := [] }) ?assign ?body ?done (fun _ _ _ _ _ _ _ _ h => h.elim)
      case kg =>
        intro X Y row hg hr hX
        constructor
        · refine hg.block _ (by omega) (fun e => ?_)
          have := (hr _ e.symm).1
          omega
        · refine hg.block _ (by omega) (fun e => ?_)
          have := (hr _ e.symm).1
          omega
      case ro =>
        rintro x vs W0 _ X Y row ⟨A', n', c', rfl, h1, h2, h3⟩ hg hr
        exact ⟨A', n', c', rfl, h1, h2, own_grown h3 hg (fun r e => (hr r e).2)⟩
      case own =>
        rintro pre X Y row ⟨A1, n1, c1, h⟩ hg hr
        exact ⟨A1, n1, c1, h.grown hg hr (by omega) (by omega) (by omega)⟩
      case assign =>
        rintro l' x vs W0 W K ⟨A', n', c', rfl, h1, h2, h3⟩ hK
        gi_wp2
        exact hK
      case body =>
        rintro l' pre x rest vs W0 W hxs hl' hL0 hgr _ ⟨A1, n1, c1, hI⟩ ⟨A2, n2, c2, rfl, hx1, hx2, hown⟩
        have hm : n2 ≤ 70368744177664 := by
          have := seqs_len (s := head l) (k := k) (m := x) (by rw [hxs]; simp)
          omega
        have hn1 : n1 < 100 := by
          have e1 := hI.own.len
          have e2 := candF_len l pre
          have e3 := seqs_count (head l) k
          rw [hxs] at e3
          simp at e3
          omega
        have hWq : q + 2 ≤ W.heap.size := by
          have := hgr.size; obtain ⟨o, h0, _⟩ := hL0; have := (Array.getElem?_eq_some_iff.1 h0).1; omega
        have hId := hI.keep (Below.refl _ _).drew
        have E1 : ES W.drew A n l := SL.keep h1 hId.bel
        have E2 : ES W.drew A2 n2 x.2 := SL.keep (SL.of_own encE_len hown hx1) (Below.refl _ _).drew
        have c3 := hI.box.cell
        have c9 := hI.ob.cell
        have n0 : (0 : Int) ≤ n := by omega
        have n20 : (0 : Int) ≤ n2 := by omega
        replace hId := Lib.hid hId
        by_cases hlt : n < n2
        · have dlt : decide ((n : Int) < (n2 : Int)) = true := by simp; omega
          by_cases hbg : beg l x.2 = n
          · have dbg : (((beg l x.2 : Nat) : Int) == (n : Int)) = true := by simp [hbg]
            obtain ⟨bx, o, ⟨x0, x1, x2⟩, rfl, hbx, hx, v0, v1, v2⟩ := ES.at_ E2 hlt
            simp only at v0 v1 v2
            by_cases hmem : (x0, x1, x2) ∈ candF l pre
            · have hin : decide ((x0, x1, x2) ∈ candF l pre) = true := by simp [hmem]
              have hc := cand_in (l := l) (by rw [hl1]; exact hx) hmem
              have hfin : ∀ W', Below W.heap.size W W' → LM w (.slice A n c) b9 q (head l) k A1 n1 c1 (candF l pre) W' → KeepsFrom W4.heap.size W W' ∧ KB (q + 1) q W W' ∧ ∃ A1 n1 c1, LM w (.slice A n c) b9 q (head l) k A1 n1 c1 (candF l (pre ++ [x])) W' := fun W' hb hM => by
                refine ⟨(keeps_below hb).from _, ⟨hb.block _ (by omega), hb.block _ (by omega)⟩, A1, n1, c1, ?_⟩
                rw [candF_snoc, hc]; exact hM
              replace hfin := Lib.hid hfin
              clear hc hmem hx hxs
              replace hsz := Lib.hid hsz
              gi_wp2
              refine wpIn_region_any (by kernel_rfl) ?_
              try (change wpAnyIn _ _ _ _ _ _ _ _ _ (World.drew _))
              refine wpAnyIn_round (l := l') rfl (by intro i o hi c; revert hi; exact noDefer_spec (by kernel_rfl) i o c) _ _ _ _ ?_
              refine wpAnyIn_take (i := 0) (v := ?_) rfl rfl (by kernel_rfl) (by kernel_rfl) (by kernel_rfl) (fun _ _ _ h => h) ⟨Or.inl ⟨by rfl, by intro w; go_simp; first | done | with_reducible rfl⟩, fun _ => rfl⟩ ?_
              simp only [List.getElem_toArray, List.getElem_cons_succ, List.getElem_cons_zero, Act.put, List.setIfInBounds_toArray, List.set_cons_zero, List.set_cons_succ]
              refine wpAnyIn_take (i := 1) (v := ?_) rfl rfl (by kernel_rfl) (by kernel_rfl) (by kernel_rfl) (fun _ _ _ h => h) ⟨Or.inl ⟨by rfl, by intro w; go_simp; first | done | with_reducible rfl⟩, fun _ => rfl⟩ ?_
              simp only [List.getElem_toArray, List.getElem_cons_succ, List.getElem_cons_zero, Act.put, List.setIfInBounds_toArray, List.set_cons_zero, List.set_cons_succ]
              refine wpAnyIn_ready (rs := [2]) (by kernel_rfl) (by simp) ?_
              refine AllReadyIn.cons rfl (fun K hK => ?_) ?_
              · have hK' := hK; clear hK; have hK := hK'; clear hK'
                go_simp
                refine hK _ _ ?_
                clear hK K
                refine wpAnyIn_take (i := 3) (v := ?_) rfl rfl (by kernel_rfl) (by kernel_rfl) (by kernel_rfl) (fun _ _ _ h => h) ⟨Or.inl ⟨by rfl, by intro w; go_simp; first | done | with_reducible rfl⟩, fun _ => rfl⟩ ?_
                simp only [List.getElem_toArray, List.getElem_cons_succ, List.getElem_cons_zero, Act.put, List.setIfInBounds_toArray, List.set_cons_zero, List.set_cons_succ]
                refine wpAnyIn_take (i := 4) (v := ?_) rfl rfl (by kernel_rfl) (by kernel_rfl) (by kernel_rfl) (fun _ _ _ h => h) ⟨Or.inl ⟨by rfl, by intro w; go_simp; first | done | with_reducible rfl⟩, fun _ => rfl⟩ ?_
                simp only [List.getElem_toArray, List.getElem_cons_succ, List.getElem_cons_zero, Act.put, List.setIfInBounds_toArray, List.set_cons_zero, List.set_cons_succ]
                refine wpAnyIn_take (i := 5) (v := ?_) rfl rfl (by kernel_rfl) (by kernel_rfl) (by kernel_rfl) (fun _ _ _ h => h) ⟨Or.inl ⟨by rfl, by intro w; go_simp; first | done | with_reducible rfl⟩, fun _ => rfl⟩ ?_
                simp only [List.getElem_toArray, List.getElem_cons_succ, List.getElem_cons_zero, Act.put, List.setIfInBounds_toArray, List.set_cons_zero, List.set_cons_succ]
                refine wpAnyIn_take (i := 7) (v := ?_) rfl rfl (by kernel_rfl) (by kernel_rfl) (by kernel_rfl) (fun _ _ _ h => h) ⟨Or.inl ⟨by rfl, by intro w; go_simp; first | done | with_reducible rfl⟩, fun _ => rfl⟩ ?_
                simp only [List.getElem_toArray, List.getElem_cons_succ, List.getElem_cons_zero, Act.put, List.setIfInBounds_toArray, List.set_cons_zero, List.set_cons_succ]
                refine wpAnyIn_ready (rs := [6, 9]) (by kernel_rfl) (by simp) ?_
                refine AllReadyIn.cons rfl (fun K hK => ?_) ?_
                · have hK' := hK; clear hK; have hK := hK'; clear hK'
                  go_simp
                  refine hK _ _ ?_
                  clear hK K
                  refine wpAnyIn_ready (rs := [8, 9]) (by kernel_rfl) (by simp) ?_
                  refine AllReadyIn.cons rfl (fun K hK => ?_) ?_
                  · have hK' := hK; clear hK; have hK := hK'; clear hK'
                    go_simp
                    gi_wp2_with (refine ⟨trivial, ?_⟩; gi_at_call 26; refine (callsIn_wide.2 (begins_any _ _ n c n2 c2 l x.2 _ E1 E2 hn hm)).mono ?_; rintro e w5 ⟨rfl, b5⟩)
                    have hI5 := Lib.hid (hId.out.keep b5)
                    have E1x : ES w5 A n l := SL.keep E1 b5
                    have d3 := hI5.out.box.cell
                    have d9 := hI5.out.ob.cell
                    have g9 := hI5.out.ob.frozen
                    have hbx5 := Nat.lt_of_lt_of_le hbx b5.size
                    have u0 := (b5.cell (p := ⟨bx, o + n * 3, none⟩) hbx).trans v0
                    have u1 := (b5.cell (p := ⟨bx, o + n * 3 + 1, none⟩) hbx).trans v1
                    have u2 := (b5.cell (p := ⟨bx, o + n * 3 + 2, none⟩) hbx).trans v2
                    refine wpAnyIn_ready (rs := [9]) (by kernel_rfl) (by simp) ?_
                    refine AllReadyIn.cons rfl (fun K hK => ?_) ?_
                    · have hK' := hK; clear hK; have hK := hK'; clear hK'
                      go_simp
                      refine hK _ _ ?_
                      clear hK K
                      refine wpAnyIn_take (i := 10) (v := ?_) rfl rfl (by kernel_rfl) (by kernel_rfl) (by kernel_rfl) (fun _ _ _ h => h) ⟨Or.inl ⟨by rfl, by intro w; go_simp; first | done | with_reducible rfl⟩, fun _ => rfl⟩ ?_
                      simp only [List.getElem_toArray, List.getElem_cons_succ, List.getElem_cons_zero, Act.put, List.setIfInBounds_toArray, List.set_cons_zero, List.set_cons_succ]
                      refine wpAnyIn_take (i := 11) (v := ?_) rfl rfl (by kernel_rfl) (by kernel_rfl) (by kernel_rfl) (fun _ _ _ h => h) ⟨Or.inl ⟨by rfl, by intro w; go_simp; first | done | with_reducible rfl⟩, fun _ => rfl⟩ ?_
                      simp only [List.getElem_toArray, List.getElem_cons_succ, List.getElem_cons_zero, Act.put, List.setIfInBounds_toArray, List.set_cons_zero, List.set_cons_succ]
                      refine wpAnyIn_take (i := 12) (v := ?_) rfl rfl (by kernel_rfl) (by kernel_rfl) (by kernel_rfl) (fun _ _ _ h => h) ⟨Or.inl ⟨by rfl, by intro w; go_simp; first | done | with_reducible rfl⟩, fun _ => rfl⟩ ?_
                      simp only [List.getElem_toArray, List.getElem_cons_succ, List.getElem_cons_zero, Act.put, List.setIfInBounds_toArray, List.set_cons_zero, List.set_cons_succ]
                      refine wpAnyIn_take (i := 13) (v := ?_) rfl rfl (by kernel_rfl) (by kernel_rfl) (by kernel_rfl) (fun _ _ _ h => h) ⟨Or.inl ⟨by rfl, by intro w; go_simp; first | done | with_reducible rfl⟩, fun _ => rfl⟩ ?_
                      simp only [List.getElem_toArray, List.getElem_cons_succ, List.getElem_cons_zero, Act.put, List.setIfInBounds_toArray, List.set_cons_zero, List.set_cons_succ]
                      refine wpAnyIn_take (i := 15) (v := ?_) rfl rfl (by kernel_rfl) (by kernel_rfl) (by kernel_rfl) (fun _ _ _ h => h) ⟨Or.inl ⟨by rfl, by intro w; go_simp; first | done | with_reducible rfl⟩, fun _ => rfl⟩ ?_
                      simp only [List.getElem_toArray, List.getElem_cons_succ, List.getElem_cons_zero, Act.put, List.setIfInBounds_toArray, List.set_cons_zero, List.set_cons_succ]
                      refine wpAnyIn_ready (rs := [14, 16]) (by kernel_rfl) (by simp) ?_
                      refine AllReadyIn.cons rfl (fun K hK => ?_) ?_
                      · have hK' := hK; clear hK; have hK := hK'; clear hK'
                        go_simp
                        refine hK _ _ ?_
                        clear hK K
                        refine wpAnyIn_ready (rs := [16]) (by kernel_rfl) (by simp) ?_
                        refine AllReadyIn.cons rfl (fun K hK => ?_) ?_
                        · have hK' := hK; clear hK; have hK := hK'; clear hK'
                          go_simp
                          refine hK _ _ ?_
                          clear hK K
                          refine wpAnyIn_take (i := 17) (v := ?_) rfl rfl (by kernel_rfl) (by kernel_rfl) (by kernel_rfl) (fun _ _ _ h => h) ⟨Or.inl ⟨by rfl, by intro w; go_simp; first | done | with_reducible rfl⟩, fun _ => rfl⟩ ?_
                          simp only [List.getElem_toArray, List.getElem_cons_succ, List.getElem_cons_zero, Act.put, List.setIfInBounds_toArray, List.set_cons_zero, List.set_cons_succ]
                          refine wpAnyIn_take (i := 18) (v := ?_) rfl rfl (by kernel_rfl) (by kernel_rfl) (by kernel_rfl) (fun _ _ _ h => h) ⟨Or.inl ⟨by rfl, by intro w; go_simp; first | done | with_reducible rfl⟩, fun _ => rfl⟩ ?_
                          simp only [List.getElem_toArray, List.getElem_cons_succ, List.getElem_cons_zero, Act.put, List.setIfInBounds_toArray, List.set_cons_zero, List.set_cons_succ]
                          refine wpAnyIn_ready (rs := [19]) (by kernel_rfl) (by simp) ?_
                          refine AllReadyIn.cons rfl (fun K hK => ?_) ?_
                          · have hK' := hK; clear hK; have hK := hK'; clear hK'
                            go_simp
                            refine hK _ _ ?_
                            clear hK K
                            refine wpAnyIn_ready (rs := [20]) (by kernel_rfl) (by simp) ?_
                            refine AllReadyIn.cons rfl (fun K hK => ?_) ?_
                            · have hK' := hK; clear hK; have hK := hK'; clear hK'
                              go_simp
                              gi_wp2_with (refine ⟨trivial, ?_⟩; gi_at_call 27; refine (callsIn_wide.2 (contains_any A1 n1 c1 (candF l pre) (x0, x1, x2) _ hI5.out.own.es (by have := hI5.out.small; omega))).mono ?_; rintro e w6 ⟨rfl, b6⟩; rw [hin])
                              have hI6 := Lib.hid (hI5.out.keep b6)
                              have m3 := hI6.out.box.cell
                              have m9 := hI6.out.ob.cell
                              have n9 := hI6.out.ob.frozen
                              have l9 := hI6.out.ob.lt
                              have l3 := hI6.out.box.lt
                              have t0 := (b6.cell (p := ⟨bx, o + n * 3, none⟩) hbx5).trans u0
                              have t1 := (b6.cell (p := ⟨bx, o + n * 3 + 1, none⟩) hbx5).trans u1
                              have t2 := (b6.cell (p := ⟨bx, o + n * 3 + 2, none⟩) hbx5).trans u2
                              refine wpAnyIn_take (i := 21) (v := ?_) rfl rfl (by kernel_rfl) (by kernel_rfl) (by kernel_rfl) (fun _ _ _ h => h) ⟨Or.inl ⟨by rfl, by intro w; go_simp; first | done | with_reducible rfl⟩, fun _ => rfl⟩ ?_
                              simp only [List.getElem_toArray, List.getElem_cons_succ, List.getElem_cons_zero, Act.put, List.setIfInBounds_toArray, List.set_cons_zero, List.set_cons_succ]
                              refine wpAnyIn_take (i := 22) (v := ?_) rfl rfl (by kernel_rfl) (by kernel_rfl) (by kernel_rfl) (fun _ _ _ h => h) ⟨Or.inl ⟨by rfl, by intro w; go_simp; first | done | with_reducible rfl⟩, fun _ => rfl⟩ ?_
                              simp only [List.getElem_toArray, List.getElem_cons_succ, List.getElem_cons_zero, Act.put, List.setIfInBounds_toArray, List.set_cons_zero, List.set_cons_succ]
                              refine wpAnyIn_done (by kernel_rfl) ?_ _
                              gi_wp2
                              exact hfin.out _ (((Below.refl _ _).drew.trans b5).trans (b6.mono b5.size)) hI6.out
                            exact AllReadyIn.nil
                          exact AllReadyIn.nil
                        exact AllReadyIn.nil
                      refine AllReadyIn.cons rfl (fun K hK => ?_) ?_
                      · have hK' := hK; clear hK; have hK := hK'; clear hK'
                        go_simp
                        refine hK _ _ ?_
                        clear hK K
                        refine wpAnyIn_take (i := 17) (v := ?_) rfl rfl (by kernel_rfl) (by kernel_rfl) (by kernel_rfl) (fun _ _ _ h => h) ⟨Or.inl ⟨by rfl, by intro w; go_simp; first | done | with_reducible rfl⟩, fun _ => rfl⟩ ?_
                        simp only [List.getElem_toArray, List.getElem_cons_succ, List.getElem_cons_zero, Act.put, List.setIfInBounds_toArray, List.set_cons_zero, List.set_cons_succ]
                        refine wpAnyIn_take (i := 18) (v := ?_) rfl rfl (by kernel_rfl) (by kernel_rfl) (by kernel_rfl) (fun _ _ _ h => h) ⟨Or.inl ⟨by rfl, by intro w; go_simp; first | done | with_reducible rfl⟩, fun _ => rfl⟩ ?_
                        simp only [List.getElem_toArray, List.getElem_cons_succ, List.getElem_cons_zero, Act.put, List.setIfInBounds_toArray, List.set_cons_zero, List.set_cons_succ]
                        refine wpAnyIn_ready (rs := [14, 19]) (by kernel_rfl) (by simp) ?_
                        refine AllReadyIn.cons rfl (fun K hK => ?_) ?_
                        · have hK' := hK; clear hK; have hK := hK'; clear hK'
                          go_simp
                          refine hK _ _ ?_
                          clear hK K
                          refine wpAnyIn_ready (rs := [19]) (by kernel_rfl) (by simp) ?_
                          refine AllReadyIn.cons rfl (fun K hK => ?_) ?_
                          · have hK' := hK; clear hK; have hK := hK'; clear hK'
                            go_simp
                            refine hK _ _ ?_
                            clear hK K
                            refine wpAnyIn_ready (rs := [20]) (by kernel_rfl) (by simp) ?_
                            refine AllReadyIn.cons rfl (fun K hK => ?_) ?_
                            · have hK' := hK; clear hK; have hK := hK'; clear hK'
                              go_simp
                              gi_wp2_with (refine ⟨trivial, ?_⟩; gi_at_call 27; refine (callsIn_wide.2 (contains_any A1 n1 c1 (candF l pre) (x0, x1, x2) _ hI5.out.own.es (by have := hI5.out.small; omega))).mono ?_; rintro e w6 ⟨rfl, b6⟩; rw [hin])
                              have hI6 := Lib.hid (hI5.out.keep b6)
                              have m3 := hI6.out.box.cell
                              have m9 := hI6.out.ob.cell
                              have n9 := hI6.out.ob.frozen
                              have l9 := hI6.out.ob.lt
                              have l3 := hI6.out.box.lt
                              have t0 := (b6.cell (p := ⟨bx, o + n * 3, none⟩) hbx5).trans u0
                              have t1 := (b6.cell (p := ⟨bx, o + n * 3 + 1, none⟩) hbx5).trans u1
                              have t2 := (b6.cell (p := ⟨bx, o + n * 3 + 2, none⟩) hbx5).trans u2
                              refine wpAnyIn_take (i := 21) (v := ?_) rfl rfl (by kernel_rfl) (by kernel_rfl) (by kernel_rfl) (fun _ _ _ h => h) ⟨Or.inl ⟨by rfl, by intro w; go_simp; first | done | with_reducible rfl⟩, fun _ => rfl⟩ ?_
                              simp only [List.getElem_toArray, List.getElem_cons_succ, List.getElem_cons_zero, Act.put, List.setIfInBounds_toArray, List.set_cons_zero, List.set_cons_succ]
                              refine wpAnyIn_take (i := 22) (v := ?_) rfl rfl (by kernel_rfl) (by kernel_rfl) (by kernel_rfl) (fun _ _ _ h => h) ⟨Or.inl ⟨by rfl, by intro w; go_simp; first | done | with_reducible rfl⟩, fun _ => rfl⟩ ?_
                              simp only [List.getElem_toArray, List.getElem_cons_succ, List.getElem_cons_zero, Act.put, List.setIfInBounds_toArray, List.set_cons_zero, List.set_cons_succ]
                              refine wpAnyIn_done (by kernel_rfl) ?_ _
                              gi_wp2
                              exact hfin.out _ (((Below.refl _ _).drew.trans b5).trans (b6.mono b5.size)) hI6.out
                            exact AllReadyIn.nil
                          exact AllReadyIn.nil
                        refine AllReadyIn.cons rfl (fun K hK => ?_) ?_
                        · have hK' := hK; clear hK; have hK := hK'; clear hK'
                          go_simp
                          refine hK _ _ ?_
                          clear hK K
                          refine wpAnyIn_ready (rs := [14]) (by kernel_rfl) (by simp) ?_
                          refine AllReadyIn.cons rfl (fun K hK => ?_) ?_
                          · have hK' := hK; clear hK; have hK := hK'; clear hK'
                            go_simp
                            refine hK _ _ ?_
                            clear hK K
                            refine wpAnyIn_ready (rs := [20]) (by kernel_rfl) (by simp) ?_
                            refine AllReadyIn.cons rfl (fun K hK => ?_) ?_
                            · have hK' := hK; clear hK; have hK := hK'; clear hK'
                              go_simp
                              gi_wp2_with (refine ⟨trivial, ?_⟩; gi_at_call 27; refine (callsIn_wide.2 (contains_any A1 n1 c1 (candF l pre) (x0, x1, x2) _ hI5.out.own.es (by have := hI5.out.small; omega))).mono ?_; rintro e w6 ⟨rfl, b6⟩; rw [hin])
                              have hI6 := Lib.hid (hI5.out.keep b6)
                              have m3 := hI6.out.box.cell
                              have m9 := hI6.out.ob.cell
                              have n9 := hI6.out.ob.frozen
                              have l9 := hI6.out.ob.lt
                              have l3 := hI6.out.box.lt
                              have t0 := (b6.cell (p := ⟨bx, o + n * 3, none⟩) hbx5).trans u0
                              have t1 := (b6.cell (p := ⟨bx, o + n * 3 + 1, none⟩) hbx5).trans u1
                              have t2 := (b6.cell (p := ⟨bx, o + n * 3 + 2, none⟩) hbx5).trans u2
                              refine wpAnyIn_take (i := 21) (v := ?_) rfl rfl (by kernel_rfl) (by kernel_rfl) (by kernel_rfl) (fun _ _ _ h => h) ⟨Or.inl ⟨by rfl, by intro w; go_simp; first | done | with_reducible rfl⟩, fun _ => rfl⟩ ?_
                              simp only [List.getElem_toArray, List.getElem_cons_succ, List.getElem_cons_zero, Act.put, List.setIfInBounds_toArray, List.set_cons_zero, List.set_cons_succ]
                              refine wpAnyIn_take (i := 22) (v := ?_) rfl rfl (by kernel_rfl) (by kernel_rfl) (by kernel_rfl) (fun _ _ _ h => h) ⟨Or.inl ⟨by rfl, by intro w; go_simp; first | done | with_reducible rfl⟩, fun _ => rfl⟩ ?_
                              simp only [List.getElem_toArray, List.getElem_cons_succ, List.getElem_cons_zero, Act.put, List.setIfInBounds_toArray, List.set_cons_zero, List.set_cons_succ]
                              refine wpAnyIn_done (by kernel_rfl) ?_ _
                              gi_wp2
                              exact hfin.out _ (((Below.refl _ _).drew.trans b5).trans (b6.mono b5.size)) hI6.out
                            exact AllReadyIn.nil
                          exact AllReadyIn.nil
                        exact AllReadyIn.nil
                      exact AllReadyIn.nil
                    exact AllReadyIn.nil
                  refine AllReadyIn.cons rfl (fun K hK => ?_) ?_
                  · have hK' := hK; clear hK; have hK := hK'; clear hK'
                    go_simp
                    refine hK _ _ ?_
                    clear hK K
                    refine wpAnyIn_take (i := 10) (v := ?_) rfl rfl (by kernel_rfl) (by kernel_rfl) (by kernel_rfl) (fun _ _ _ h => h) ⟨Or.inl ⟨by rfl, by intro w; go_simp; first | done | with_reducible rfl⟩, fun _ => rfl⟩ ?_
                    simp only [List.getElem_toArray, List.getElem_cons_succ, List.getElem_cons_zero, Act.put, List.setIfInBounds_toArray, List.set_cons_zero, List.set_cons_succ]
                    refine wpAnyIn_ready (rs := [8]) (by kernel_rfl) (by simp) ?_
                    refine AllReadyIn.cons rfl (fun K hK => ?_) ?_
                    · have hK' := hK; clear hK; have hK := hK'; clear hK'
                      go_simp
                      gi_wp2_with (refine ⟨trivial, ?_⟩; gi_at_call 26; refine (callsIn_wide.2 (begins_any _ _ n c n2 c2 l x.2 _ E1 E2 hn hm)).mono ?_; rintro e w5 ⟨rfl, b5⟩)
                      have hI5 := Lib.hid (hId.out.keep b5)
                      have E1x : ES w5 A n l := SL.keep E1 b5
                      have d3 := hI5.out.box.cell
                      have d9 := hI5.out.ob.cell
                      have g9 := hI5.out.ob.frozen
                      have hbx5 := Nat.lt_of_lt_of_le hbx b5.size
                      have u0 := (b5.cell (p := ⟨bx, o + n * 3, none⟩) hbx).trans v0
                      have u1 := (b5.cell (p := ⟨bx, o + n * 3 + 1, none⟩) hbx).trans v1
                      have u2 := (b5.cell (p := ⟨bx, o + n * 3 + 2, none⟩) hbx).trans v2
                      refine wpAnyIn_take (i := 11) (v := ?_) rfl rfl (by kernel_rfl) (by kernel_rfl) (by kernel_rfl) (fun _ _ _ h => h) ⟨Or.inl ⟨by rfl, by intro w; go_simp; first | done | with_reducible rfl⟩, fun _ => rfl⟩ ?_
                      simp only [List.getElem_toArray, List.getElem_cons_succ, List.getElem_cons_zero, Act.put, List.setIfInBounds_toArray, List.set_cons_zero, List.set_cons_succ]
                      refine wpAnyIn_take (i := 12) (v := ?_) rfl rfl (by kernel_rfl) (by kernel_rfl) (by kernel_rfl) (fun _ _ _ h => h) ⟨Or.inl ⟨by rfl, by intro w; go_simp; first | done | with_reducible rfl⟩, fun _ => rfl⟩ ?_
                      simp only [List.getElem_toArray, List.getElem_cons_succ, List.getElem_cons_zero, Act.put, List.setIfInBounds_toArray, List.set_cons_zero, List.set_cons_succ]
                      refine wpAnyIn_take (i := 13) (v := ?_) rfl rfl (by kernel_rfl) (by kernel_rfl) (by kernel_rfl) (fun _ _ _ h => h) ⟨Or.inl ⟨by rfl, by intro w; go_simp; first | done | with_reducible rfl⟩, fun _ => rfl⟩ ?_
                      simp only [List.getElem_toArray, List.getElem_cons_succ, List.getElem_cons_zero, Act.put, List.setIfInBounds_toArray, List.set_cons_zero, List.set_cons_succ]
                      refine wpAnyIn_take (i := 15) (v := ?_) rfl rfl (by kernel_rfl) (by kernel_rfl) (by kernel_rfl) (fun _ _ _ h => h) ⟨Or.inl ⟨by rfl, by intro w; go_simp; first | done | with_reducible rfl⟩, fun _ => rfl⟩ ?_
                      simp only [List.getElem_toArray, List.getElem_cons_succ, List.getElem_cons_zero, Act.put, List.setIfInBounds_toArray, List.set_cons_zero, List.set_cons_succ]
                      refine wpAnyIn_ready (rs := [14, 16]) (by kernel_rfl) (by simp) ?_
                      refine AllReadyIn.cons rfl (fun K hK => ?_) ?_
                      · have hK' := hK; clear hK; have hK := hK'; clear hK'
                        go_simp
                        refine hK _ _ ?_
                        clear hK K
                        refine wpAnyIn_ready (rs := [16]) (by kernel_rfl) (by simp) ?_
                        refine AllReadyIn.cons rfl (fun K hK => ?_) ?_
                        · have hK' := hK; clear hK; have hK := hK'; clear hK'
                          go_simp
                          refine hK _ _ ?_
                          clear hK K
                          refine wpAnyIn_take (i := 17) (v := ?_) rfl rfl (by kernel_rfl) (by kernel_rfl) (by kernel_rfl) (fun _ _ _ h => h) ⟨Or.inl ⟨by rfl, by intro w; go_simp; first | done | with_reducible rfl⟩, fun _ => rfl⟩ ?_
                          simp only [List.getElem_toArray, List.getElem_cons_succ, List.getElem_cons_zero, Act.put, List.setIfInBounds_toArray, List.set_cons_zero, List.set_cons_succ]
                          refine wpAnyIn_take (i := 18) (v := ?_) rfl rfl (by kernel_rfl) (by kernel_rfl) (by kernel_rfl) (fun _ _ _ h => h) ⟨Or.inl ⟨by rfl, by intro w; go_simp; first | done | with_reducible rfl⟩, fun _ => rfl⟩ ?_
                          simp only [List.getElem_toArray, List.getElem_cons_succ, List.getElem_cons_zero, Act.put, List.setIfInBounds_toArray, List.set_cons_zero, List.set_cons_succ]
                          refine wpAnyIn_ready (rs := [19]) (by kernel_rfl) (by simp) ?_
                          refine AllReadyIn.cons rfl (fun K hK => ?_) ?_
                          · have hK' := hK; clear hK; have hK := hK'; clear hK'
                            go_simp
                            refine hK _ _ ?_
                            clear hK K
                            refine wpAnyIn_ready (rs := [20]) (by kernel_rfl) (by simp) ?_
                            refine AllReadyIn.cons rfl (fun K hK => ?_) ?_
                            · have hK' := hK; clear hK; have hK := hK'; clear hK'
                              go_simp
                              gi_wp2_with (refine ⟨trivial, ?_⟩; gi_at_call 27; refine (callsIn_wide.2 (contains_any A1 n1 c1 (candF l pre) (x0, x1, x2) _ hI5.out.own.es (by have := hI5.out.small; omega))).mono ?_; rintro e w6 ⟨rfl, b6⟩; rw [hin])
                              have hI6 := Lib.hid (hI5.out.keep b6)
                              have m3 := hI6.out.box.cell
                              have m9 := hI6.out.ob.cell
                              have n9 := hI6.out.ob.frozen
                              have l9 := hI6.out.ob.lt
                              have l3 := hI6.out.box.lt
                              have t0 := (b6.cell (p := ⟨bx, o + n * 3, none⟩) hbx5).trans u0
                              have t1 := (b6.cell (p := ⟨bx, o + n * 3 + 1, none⟩) hbx5).trans u1
                              have t2 := (b6.cell (p := ⟨bx, o + n * 3 + 2, none⟩) hbx5).trans u2
                              refine wpAnyIn_take (i := 21) (v := ?_) rfl rfl (by kernel_rfl) (by kernel_rfl) (by kernel_rfl) (fun _ _ _ h => h) ⟨Or.inl ⟨by rfl, by intro w; go_simp; first | done | with_reducible rfl⟩, fun _ => rfl⟩ ?_
                              simp only [List.getElem_toArray, List.getElem_cons_succ, List.getElem_cons_zero, Act.put, List.setIfInBounds_toArray, List.set_cons_zero, List.set_cons_succ]
                              refine wpAnyIn_take (i := 22) (v := ?_) rfl rfl (by kernel_rfl) (by kernel_rfl) (by kernel_rfl) (fun _ _ _ h => h) ⟨Or.inl ⟨by rfl, by intro w; go_simp; first | done | with_reducible rfl⟩, fun _ => rfl⟩ ?_
                              simp only [List.getElem_toArray, List.getElem_cons_succ, List.getElem_cons_zero, Act.put, List.setIfInBounds_toArray, List.set_cons_zero, List.set_cons_succ]
                              refine wpAnyIn_done (by kernel_rfl) ?_ _
                              gi_wp2
                              exact hfin.out _ (((Below.refl _ _).drew.trans b5).trans (b6.mono b5.size)) hI6.out
                            exact AllReadyIn.nil
                          exact AllReadyIn.nil
                        exact AllReadyIn.nil
                      refine AllReadyIn.cons rfl (fun K hK => ?_) ?_
                      · have hK' := hK; clear hK; have hK := hK'; clear hK'
                        go_simp
                        refine hK _ _ ?_
                        clear hK K
                        refine wpAnyIn_take (i := 17) (v := ?_) rfl rfl (by kernel_rfl) (by kernel_rfl) (by kernel_rfl) (fun _ _ _ h => h) ⟨Or.inl ⟨by rfl, by intro w; go_simp; first | done | with_reducible rfl⟩, fun _ => rfl⟩ ?_
                        simp only [List.getElem_toArray, List.getElem_cons_succ, List.getElem_cons_zero, Act.put, List.setIfInBounds_toArray, List.set_cons_zero, List.set_cons_succ]
                        refine wpAnyIn_take (i := 18) (v := ?_) rfl rfl (by kernel_rfl) (by kernel_rfl) (by kernel_rfl) (fun _ _ _ h => h) ⟨Or.inl ⟨by rfl, by intro w; go_simp; first | done | with_reducible rfl⟩, fun _ => rfl⟩ ?_
                        simp only [List.getElem_toArray, List.getElem_cons_succ, List.getElem_cons_zero, Act.put, List.setIfInBounds_toArray, List.set_cons_zero, List.set_cons_succ]
                        refine wpAnyIn_ready (rs := [14, 19]) (by kernel_rfl) (by simp) ?_
                        refine AllReadyIn.cons rfl (fun K hK => ?_) ?_
                        · have hK' := hK; clear hK; have hK := hK'; clear hK'
                          go_simp
                          refine hK _ _ ?_
                          clear hK K
                          refine wpAnyIn_ready (rs := [19]) (by kernel_rfl) (by simp) ?_
                          refine AllReadyIn.cons rfl (fun K hK => ?_) ?_
                          · have hK' := hK; clear hK; have hK := hK'; clear hK'
                            go_simp
                            refine hK _ _ ?_
                            clear hK K
                            refine wpAnyIn_ready (rs := [20]) (by kernel_rfl) (by simp) ?_
                            refine AllReadyIn.cons rfl (fun K hK => ?_) ?_
                            · have hK' := hK; clear hK; have hK := hK'; clear hK'
                              go_simp
                              gi_wp2_with (refine ⟨trivial, ?_⟩; gi_at_call 27; refine (callsIn_wide.2 (contains_any A1 n1 c1 (candF l pre) (x0, x1, x2) _ hI5.out.own.es (by have := hI5.out.small; omega))).mono ?_; rintro e w6 ⟨rfl, b6⟩; rw [hin])
                              have hI6 := Lib.hid (hI5.out.keep b6)
                              have m3 := hI6.out.box.cell
                              have m9 := hI6.out.ob.cell
                              have n9 := hI6.out.ob.frozen
                              have l9 := hI6.out.ob.lt
                              have l3 := hI6.out.box.lt
                              have t0 := (b6.cell (p := ⟨bx, o + n * 3, none⟩) hbx5).trans u0
                              have t1 := (b6.cell (p := ⟨bx, o + n * 3 + 1, none⟩) hbx5).trans u1
                              have t2 := (b6.cell (p := ⟨bx, o + n * 3 + 2, none⟩) hbx5).trans u2
                              refine wpAnyIn_take (i := 21) (v := ?_) rfl rfl (by kernel_rfl) (by kernel_rfl) (by kernel_rfl) (fun _ _ _ h => h) ⟨Or.inl ⟨by rfl, by intro w; go_simp; first | done | with_reducible rfl⟩, fun _ => rfl⟩ ?_
                              simp only [List.getElem_toArray, List.getElem_cons_succ, List.getElem_cons_zero, Act.put, List.setIfInBounds_toArray, List.set_cons_zero, List.set_cons_succ]
                              refine wpAnyIn_take (i := 22) (v := ?_) rfl rfl (by kernel_rfl) (by kernel_rfl) (by kernel_rfl) (fun _ _ _ h => h) ⟨Or.inl ⟨by rfl, by intro w; go_simp; first | done | with_reducible rfl⟩, fun _ => rfl⟩ ?_
                              simp only [List.getElem_toArray, List.getElem_cons_succ, List.getElem_cons_zero, Act.put, List.setIfInBounds_toArray, List.set_cons_zero, List.set_cons_succ]
                              refine wpAnyIn_done (by kernel_rfl) ?_ _
                              gi_wp2
                              exact hfin.out _ (((Below.refl _ _).drew.trans b5).trans (b6.mono b5.size)) hI6.out
                            exact AllReadyIn.nil
                          exact AllReadyIn.nil
                        refine AllReadyIn.cons rfl (fun K hK => ?_) ?_
                        · have hK' := hK; clear hK; have hK := hK'; clear hK'
                          go_simp
                          refine hK _ _ ?_
                          clear hK K
                          refine wpAnyIn_ready (rs := [14]) (by kernel_rfl) (by simp) ?_
                          refine AllReadyIn.cons rfl (fun K hK => ?_) ?_
                          · have hK' := hK; clear hK; have hK := hK'; clear hK'
                            go_simp
                            refine hK _ _ ?_
                            clear hK K
                            refine wpAnyIn_ready (rs := [20]) (by kernel_rfl) (by simp) ?_
                            refine AllReadyIn.cons rfl (fun K hK => ?_) ?_
                            · have hK' := hK; clear hK; have hK := hK'; clear hK'
                              go_simp
                              gi_wp2_with (refine ⟨trivial, ?_⟩; gi_at_call 27; refine (callsIn_wide.2 (contains_any A1 n1 c1 (candF l pre) (x0, x1, x2) _ hI5.out.own.es (by have := hI5.out.small; omega))).mono ?_; rintro e w6 ⟨rfl, b6⟩; rw [hin])
                              have hI6 := Lib.hid (hI5.out.keep b6)
                              have m3 := hI6.out.box.cell
                              have m9 := hI6.out.ob.cell
                              have n9 := hI6.out.ob.frozen
                              have l9 := hI6.out.ob.lt
                              have l3 := hI6.out.box.lt
                              have t0 := (b6.cell (p := ⟨bx, o + n * 3, none⟩) hbx5).trans u0
                              have t1 := (b6.cell (p := ⟨bx, o + n * 3 + 1, none⟩) hbx5).trans u1
                              have t2 := (b6.cell (p := ⟨bx, o + n * 3 + 2, none⟩) hbx5).trans u2
                              refine wpAnyIn_take (i := 21) (v := ?_) rfl rfl (by kernel_rfl) (by kernel_rfl) (by kernel_rfl) (fun _ _ _ h => h) ⟨Or.inl ⟨by rfl, by intro w; go_simp; first | done | with_reducible rfl⟩, fun _ => rfl⟩ ?_
                              simp only [List.getElem_toArray, List.getElem_cons_succ, List.getElem_cons_zero, Act.put, List.setIfInBounds_toArray, List.set_cons_zero, List.set_cons_succ]
                              refine wpAnyIn_take (i := 22) (v := ?_) rfl rfl (by kernel_rfl) (by kernel_rfl) (by kernel_rfl) (fun _ _ _ h => h) ⟨Or.inl ⟨by rfl, by intro w; go_simp; first | done | with_reducible rfl⟩, fun _ => rfl⟩ ?_
                              simp only [List.getElem_toArray, List.getElem_cons_succ, List.getElem_cons_zero, Act.put, List.setIfInBounds_toArray, List.set_cons_zero, List.set_cons_succ]
                              refine wpAnyIn_done (by kernel_rfl) ?_ _
                              gi_wp2
                              exact hfin.out _ (((Below.refl _ _).drew.trans b5).trans (b6.mono b5.size)) hI6.out
                            exact AllReadyIn.nil
                          exact AllReadyIn.nil
                        exact AllReadyIn.nil
                      exact AllReadyIn.nil
                    exact AllReadyIn.nil
                  exact AllReadyIn.nil
                refine AllReadyIn.cons rfl (fun K hK => ?_) ?_
                · have hK' := hK; clear hK; have hK := hK'; clear hK'
                  go_simp
                  refine hK _ _ ?_
                  clear hK K
                  refine wpAnyIn_take (i := 10) (v := ?_) rfl rfl (by kernel_rfl) (by kernel_rfl) (by kernel_rfl) (fun _ _ _ h => h) ⟨Or.inl ⟨by rfl, by intro w; go_simp; first | done | with_reducible rfl⟩, fun _ => rfl⟩ ?_
                  simp only [List.getElem_toArray, List.getElem_cons_succ, List.getElem_cons_zero, Act.put, List.setIfInBounds_toArray, List.set_cons_zero, List.set_cons_succ]
                  refine wpAnyIn_ready (rs := [6]) (by kernel_rfl) (by simp) ?_
                  refine AllReadyIn.cons rfl (fun K hK => ?_) ?_
                  · have hK' := hK; clear hK; have hK := hK'; clear hK'
                    go_simp
                    refine hK _ _ ?_
                    clear hK K
                    refine wpAnyIn_ready (rs := [8]) (by kernel_rfl) (by simp) ?_
                    refine AllReadyIn.cons rfl (fun K hK => ?_) ?_
                    · have hK' := hK; clear hK; have hK := hK'; clear hK'
                      go_simp
                      gi_wp2_with (refine ⟨trivial, ?_⟩; gi_at_call 26; refine (callsIn_wide.2 (begins_any _ _ n c n2 c2 l x.2 _ E1 E2 hn hm)).mono ?_; rintro e w5 ⟨rfl, b5⟩)
                      have hI5 := Lib.hid (hId.out.keep b5)
                      have E1x : ES w5 A n l := SL.keep E1 b5
                      have d3 := hI5.out.box.cell
                      have d9 := hI5.out.ob.cell
                      have g9 := hI5.out.ob.frozen
                      have hbx5 := Nat.lt_of_lt_of_le hbx b5.size
                      have u0 := (b5.cell (p := ⟨bx, o + n * 3, none⟩) hbx).trans v0
                      have u1 := (b5.cell (p := ⟨bx, o + n * 3 + 1, none⟩) hbx).trans v1
                      have u2 := (b5.cell (p := ⟨bx, o + n * 3 + 2, none⟩) hbx).trans v2
                      refine wpAnyIn_take (i := 11) (v := ?_) rfl rfl (by kernel_rfl) (by kernel_rfl) (by kernel_rfl) (fun _ _ _ h => h) ⟨Or.inl ⟨by rfl, by intro w; go_simp; first | done | with_reducible rfl⟩, fun _ => rfl⟩ ?_
                      simp only [List.getElem_toArray, List.getElem_cons_succ, List.getElem_cons_zero, Act.put, List.setIfInBounds_toArray, List.set_cons_zero, List.set_cons_succ]
                      refine wpAnyIn_take (i := 12) (v := ?_) rfl rfl (by kernel_rfl) (by kernel_rfl) (by kernel_rfl) (fun _ _ _ h => h) ⟨Or.inl ⟨by rfl, by intro w; go_simp; first | done | with_reducible rfl⟩, fun _ => rfl⟩ ?_
                      simp only [List.getElem_toArray, List.getElem_cons_succ, List.getElem_cons_zero, Act.put, List.setIfInBounds_toArray, List.set_cons_zero, List.set_cons_succ]
                      refine wpAnyIn_take (i := 13) (v := ?_) rfl rfl (by kernel_rfl) (by kernel_rfl) (by kernel_rfl) (fun _ _ _ h => h) ⟨Or.inl ⟨by rfl, by intro w; go_simp; first | done | with_reducible rfl⟩, fun _ => rfl⟩ ?_
                      simp only [List.getElem_toArray, List.getElem_cons_succ, List.getElem_cons_zero, Act.put, List.setIfInBounds_toArray, List.set_cons_zero, List.set_cons_succ]
                      refine wpAnyIn_take (i := 15) (v := ?_) rfl rfl (by kernel_rfl) (by kernel_rfl) (by kernel_rfl) (fun _ _ _ h => h) ⟨Or.inl ⟨by rfl, by intro w; go_simp; first | done | with_reducible rfl⟩, fun _ => rfl⟩ ?_
                      simp only [List.getElem_toArray, List.getElem_cons_succ, List.getElem_cons_zero, Act.put, List.setIfInBounds_toArray, List.set_cons_zero, List.set_cons_succ]
                      refine wpAnyIn_ready (rs := [14, 16]) (by kernel_rfl) (by simp) ?_
                      refine AllReadyIn.cons rfl (fun K hK => ?_) ?_
                      · have hK' := hK; clear hK; have hK := hK'; clear hK'
                        go_simp
                        refine hK _ _ ?_
                        clear hK K
                        refine wpAnyIn_ready (rs := [16]) (by kernel_rfl) (by simp) ?_
                        refine AllReadyIn.cons rfl (fun K hK => ?_) ?_
                        · have hK' := hK; clear hK; have hK := hK'; clear hK'
                          go_simp
                          refine hK _ _ ?_
                          clear hK K
                          refine wpAnyIn_take (i := 17) (v := ?_) rfl rfl (by kernel_rfl) (by kernel_rfl) (by kernel_rfl) (fun _ _ _ h => h) ⟨Or.inl ⟨by rfl, by intro w; go_simp; first | done | with_reducible rfl⟩, fun _ => rfl⟩ ?_
                          simp only [List.getElem_toArray, List.getElem_cons_succ, List.getElem_cons_zero, Act.put, List.setIfInBounds_toArray, List.set_cons_zero, List.set_cons_succ]
                          refine wpAnyIn_take (i := 18) (v := ?_) rfl rfl (by kernel_rfl) (by kernel_rfl) (by kernel_rfl) (fun _ _ _ h => h) ⟨Or.inl ⟨by rfl, by intro w; go_simp; first | done | with_reducible rfl⟩, fun _ => rfl⟩ ?_
                          simp only [List.getElem_toArray, List.getElem_cons_succ, List.getElem_cons_zero, Act.put, List.setIfInBounds_toArray, List.set_cons_zero, List.set_cons_succ]
                          refine wpAnyIn_ready (rs := [19]) (by kernel_rfl) (by simp) ?_
                          refine AllReadyIn.cons rfl (fun K hK => ?_) ?_
                          · have hK' := hK; clear hK; have hK := hK'; clear hK'
                            go_simp
                            refine hK _ _ ?_
                            clear hK K
                            refine wpAnyIn_ready (rs := [20]) (by kernel_rfl) (by simp) ?_
                            refine AllReadyIn.cons rfl (fun K hK => ?_) ?_
                            · have hK' := hK; clear hK; have hK := hK'; clear hK'
                              go_simp
                              gi_wp2_with (refine ⟨trivial, ?_⟩; gi_at_call 27; refine (callsIn_wide.2 (contains_any A1 n1 c1 (candF l pre) (x0, x1, x2) _ hI5.out.own.es (by have := hI5.out.small; omega))).mono ?_; rintro e w6 ⟨rfl, b6⟩; rw [hin])
                              have hI6 := Lib.hid (hI5.out.keep b6)
                              have m3 := hI6.out.box.cell
                              have m9 := hI6.out.ob.cell
                              have n9 := hI6.out.ob.frozen
                              have l9 := hI6.out.ob.lt
                              have l3 := hI6.out.box.lt
                              have t0 := (b6.cell (p := ⟨bx, o + n * 3, none⟩) hbx5).trans u0
                              have t1 := (b6.cell (p := ⟨bx, o + n * 3 + 1, none⟩) hbx5).trans u1
                              have t2 := (b6.cell (p := ⟨bx, o + n * 3 + 2, none⟩) hbx5).trans u2
                              refine wpAnyIn_take (i := 21) (v := ?_) rfl rfl (by kernel_rfl) (by kernel_rfl) (by kernel_rfl) (fun _ _ _ h => h) ⟨Or.inl ⟨by rfl, by intro w; go_simp; first | done | with_reducible rfl⟩, fun _ => rfl⟩ ?_
                              simp only [List.getElem_toArray, List.getElem_cons_succ, List.getElem_cons_zero, Act.put, List.setIfInBounds_toArray, List.set_cons_zero, List.set_cons_succ]
                              refine wpAnyIn_take (i := 22) (v := ?_) rfl rfl (by kernel_rfl) (by kernel_rfl) (by kernel_rfl) (fun _ _ _ h => h) ⟨Or.inl ⟨by rfl, by intro w; go_simp; first | done | with_reducible rfl⟩, fun _ => rfl⟩ ?_
                              simp only [List.getElem_toArray, List.getElem_cons_succ, List.getElem_cons_zero, Act.put, List.setIfInBounds_toArray, List.set_cons_zero, List.set_cons_succ]
                              refine wpAnyIn_done (by kernel_rfl) ?_ _
                              gi_wp2
                              exact hfin.out _ (((Below.refl _ _).drew.trans b5).trans (b6.mono b5.size)) hI6.out
                            exact AllReadyIn.nil
                          exact AllReadyIn.nil
                        exact AllReadyIn.nil
                      refine AllReadyIn.cons rfl (fun K hK => ?_) ?_
                      · have hK' := hK; clear hK; have hK := hK'; clear hK'
                        go_simp
                        refine hK _ _ ?_
                        clear hK K
                        refine wpAnyIn_take (i := 17) (v := ?_) rfl rfl (by kernel_rfl) (by kernel_rfl) (by kernel_rfl) (fun _ _ _ h => h) ⟨Or.inl ⟨by rfl, by intro w; go_simp; first | done | with_reducible rfl⟩, fun _ => rfl⟩ ?_
                        simp only [List.getElem_toArray, List.getElem_cons_succ, List.getElem_cons_zero, Act.put, List.setIfInBounds_toArray, List.set_cons_zero, List.set_cons_succ]
                        refine wpAnyIn_take (i := 18) (v := ?_) rfl rfl (by kernel_rfl) (by kernel_rfl) (by kernel_rfl) (fun _ _ _ h => h) ⟨Or.inl ⟨by rfl, by intro w; go_simp; first | done | with_reducible rfl⟩, fun _ => rfl⟩ ?_
                        simp only [List.getElem_toArray, List.getElem_cons_succ, List.getElem_cons_zero, Act.put, List.setIfInBounds_toArray, List.set_cons_zero, List.set_cons_succ]
                        refine wpAnyIn_ready (rs := [14, 19]) (by kernel_rfl) (by simp) ?_
                        refine AllReadyIn.cons rfl (fun K hK => ?_) ?_
                        · have hK' := hK; clear hK; have hK := hK'; clear hK'
                          go_simp
                          refine hK _ _ ?_
                          clear hK K
                          refine wpAnyIn_ready (rs := [19]) (by kernel_rfl) (by simp) ?_
                          refine AllReadyIn.cons rfl (fun K hK => ?_) ?_
                          · have hK' := hK; clear hK; have hK := hK'; clear hK'
                            go_simp
                            refine hK _ _ ?_
                            clear hK K
                            refine wpAnyIn_ready (rs := [20]) (by kernel_rfl) (by simp) ?_
                            refine AllReadyIn.cons rfl (fun K hK => ?_) ?_
                            · have hK' := hK; clear hK; have hK := hK'; clear hK'
                              go_simp
                              gi_wp2_with (refine ⟨trivial, ?_⟩; gi_at_call 27; refine (callsIn_wide.2 (contains_any A1 n1 c1 (candF l pre) (x0, x1, x2) _ hI5.out.own.es (by have := hI5.out.small; omega))).mono ?_; rintro e w6 ⟨rfl, b6⟩; rw [hin])
                              have hI6 := Lib.hid (hI5.out.keep b6)
                              have m3 := hI6.out.box.cell
                              have m9 := hI6.out.ob.cell
                              have n9 := hI6.out.ob.frozen
                              have l9 := hI6.out.ob.lt
                              have l3 := hI6.out.box.lt
                              have t0 := (b6.cell (p := ⟨bx, o + n * 3, none⟩) hbx5).trans u0
                              have t1 := (b6.cell (p := ⟨bx, o + n * 3 + 1, none⟩) hbx5).trans u1
                              have t2 := (b6.cell (p := ⟨bx, o + n * 3 + 2, none⟩) hbx5).trans u2
                              refine wpAnyIn_take (i := 21) (v := ?_) rfl rfl (by kernel_rfl) (by kernel_rfl) (by kernel_rfl) (fun _ _ _ h => h) ⟨Or.inl ⟨by rfl, by intro w; go_simp; first | done | with_reducible rfl⟩, fun _ => rfl⟩ ?_
                              simp only [List.getElem_toArray, List.getElem_cons_succ, List.getElem_cons_zero, Act.put, List.setIfInBounds_toArray, List.set_cons_zero, List.set_cons_succ]
                              refine wpAnyIn_take (i := 22) (v := ?_) rfl rfl (by kernel_rfl) (by kernel_rfl) (by kernel_rfl) (fun _ _ _ h => h) ⟨Or.inl ⟨by rfl, by intro w; go_simp; first | done | with_reducible rfl⟩, fun _ => rfl⟩ ?_
                              simp only [List.getElem_toArray, List.getElem_cons_succ, List.getElem_cons_zero, Act.put, List.setIfInBounds_toArray, List.set_cons_zero, List.set_cons_succ]
                              refine wpAnyIn_done (by kernel_rfl) ?_ _
                              gi_wp2
                              exact hfin.out _ (((Below.refl _ _).drew.trans b5).trans (b6.mono b5.size)) hI6.out
                            exact AllReadyIn.nil
                          exact AllReadyIn.nil
                        refine AllReadyIn.cons rfl (fun K hK => ?_) ?_
                        · have hK' := hK; clear hK; have hK := hK'; clear hK'
                          go_simp
                          refine hK _ _ ?_
                          clear hK K
                          refine wpAnyIn_ready (rs := [14]) (by kernel_rfl) (by simp) ?_
                          refine AllReadyIn.cons rfl (fun K hK => ?_) ?_
                          · have hK' := hK; clear hK; have hK := hK'; clear hK'
                            go_simp
                            refine hK _ _ ?_
                            clear hK K
                            refine wpAnyIn_ready (rs := [20]) (by kernel_rfl) (by simp) ?_
                            refine AllReadyIn.cons rfl (fun K hK => ?_) ?_
                            · have hK' := hK; clear hK; have hK := hK'; clear hK'
                              go_simp
                              gi_wp2_with (refine ⟨trivial, ?_⟩; gi_at_call 27; refine (callsIn_wide.2 (contains_any A1 n1 c1 (candF l pre) (x0, x1, x2) _ hI5.out.own.es (by have := hI5.out.small; omega))).mono ?_; rintro e w6 ⟨rfl, b6⟩; rw [hin])
                              have hI6 := Lib.hid (hI5.out.keep b6)
                              have m3 := hI6.out.box.cell
                              have m9 := hI6.out.ob.cell
                              have n9 := hI6.out.ob.frozen
                              have l9 := hI6.out.ob.lt
                              have l3 := hI6.out.box.lt
                              have t0 := (b6.cell (p := ⟨bx, o + n * 3, none⟩) hbx5).trans u0
                              have t1 := (b6.cell (p := ⟨bx, o + n * 3 + 1, none⟩) hbx5).trans u1
                              have t2 := (b6.cell (p := ⟨bx, o + n * 3 + 2, none⟩) hbx5).trans u2
                              refine wpAnyIn_take (i := 21) (v := ?_) rfl rfl (by kernel_rfl) (by kernel_rfl) (by kernel_rfl) (fun _ _ _ h => h) ⟨Or.inl ⟨by rfl, by intro w; go_simp; first | done | with_reducible rfl⟩, fun _ => rfl⟩ ?_
                              simp only [List.getElem_toArray, List.getElem_cons_succ, List.getElem_cons_zero, Act.put, List.setIfInBounds_toArray, List.set_cons_zero, List.set_cons_succ]
                              refine wpAnyIn_take (i := 22) (v := ?_) rfl rfl (by kernel_rfl) (by kernel_rfl) (by kernel_rfl) (fun _ _ _ h => h) ⟨Or.inl ⟨by rfl, by intro w; go_simp; first | done | with_reducible rfl⟩, fun _ => rfl⟩ ?_
                              simp only [List.getElem_toArray, List.getElem_cons_succ, List.getElem_cons_zero, Act.put, List.setIfInBounds_toArray, List.set_cons_zero, List.set_cons_succ]
                              refine wpAnyIn_done (by kernel_rfl) ?_ _
                              gi_wp2
                              exact hfin.out _ (((Below.refl _ _).drew.trans b5).trans (b6.mono b5.size)) hI6.out
                            exact AllReadyIn.nil
                          exact AllReadyIn.nil
                        exact AllReadyIn.nil
                      exact AllReadyIn.nil
                    exact AllReadyIn.nil
                  exact AllReadyIn.nil
                exact AllReadyIn.nil
              exact AllReadyIn.nil
            · have hin : decide ((x0, x1, x2) ∈ candF l pre) = false := by simp [hmem]
              have hc := cand_new (l := l) (by rw [hl1]; exact hx) (by rw [hl1]; exact hbg) hmem
              have hfin : ∀ (b9' : Nat) W5 W6 A3 c3 (y : Value), Below W.heap.size W W5 → (∀ j o, rowOf A1 = some j → W5.heap[j]? = some o → o.isCells = true) → W5.grownBy W6 (rowOf A1) → LM w (.slice A n c) b9 q (head l) k A3 (n1 + 1) c3 (candF l pre ++ [(x0, x1, x2)]) (W6.setCell ⟨b9, 0, none⟩ y) → Boxed W5 q 3 (.int .i64 (head l)) → Boxed W5 (q + 1) 3 (.int .i64 k) → rowOf A1 ≠ some q → rowOf A1 ≠ some (q + 1) →
                  KeepsFrom W4.heap.size W (W6.setCell ⟨b9, 0, none⟩ y) ∧ KB (q + 1) q W (W6.setCell ⟨b9, 0, none⟩ y) ∧ ∃ A1 n1 c1, LM w (.slice A n c) b9 q (head l) k A1 n1 c1 (candF l (pre ++ [x])) (W6.setCell ⟨b9, 0, none⟩ y) := fun _ W5 W6 A3 c3 y hb hcells hg hM s1 s2 r1 r2 => by
                refine ⟨((keeps_below hb).trans ((KeepsOthers.of_grownBy hg hcells).trans (KeepsOthers.setCell _ _ _))).from _, ⟨?_, ?_⟩, A3, n1 + 1, c3, ?_⟩
                · exact (hpFar (by simp; omega)).trans ((hg.block _ s2.lt (fun e => r2 e.symm)).trans (hb.block _ (by omega)))
                · exact (hpFar (by simp; omega)).trans ((hg.block _ s1.lt (fun e => r1 e.symm)).trans (hb.block _ (by omega)))
                · rw [candF_snoc, hc]; exact hM
              replace hfin := Lib.hid hfin
              clear hc hmem hx hxs
              replace hsz := Lib.hid hsz
              gi_wp2
              refine wpIn_region_any (by kernel_rfl) ?_
              try (change wpAnyIn _ _ _ _ _ _ _ _ _ (World.drew _))
              refine wpAnyIn_round (l := l') rfl (by intro i o hi c; revert hi; exact noDefer_spec (by kernel_rfl) i o c) _ _ _ _ ?_
              refine wpAnyIn_take (i := 0) (v := ?_) rfl rfl (by kernel_rfl) (by kernel_rfl) (by kernel_rfl) (fun _ _ _ h => h) ⟨Or.inl ⟨by rfl, by intro w; go_simp; first | done | with_reducible rfl⟩, fun _ => rfl⟩ ?_
              simp only [List.getElem_toArray, List.getElem_cons_succ, List.getElem_cons_zero, Act.put, List.setIfInBounds_toArray, List.set_cons_zero, List.set_cons_succ]
              refine wpAnyIn_take (i := 1) (v := ?_) rfl rfl (by kernel_rfl) (by kernel_rfl) (by kernel_rfl) (fun _ _ _ h => h) ⟨Or.inl ⟨by rfl, by intro w; go_simp; first | done | with_reducible rfl⟩, fun _ => rfl⟩ ?_
              simp only [List.getElem_toArray, List.getElem_cons_succ, List.getElem_cons_zero, Act.put, List.setIfInBounds_toArray, List.set_cons_zero, List.set_cons_succ]
              refine wpAnyIn_ready (rs := [2]) (by kernel_rfl) (by simp) ?_
              refine AllReadyIn.cons rfl (fun K hK => ?_) ?_
              · have hK' := hK; clear hK; have hK := hK'; clear hK'
                go_simp
                refine hK _ _ ?_
                clear hK K
                refine wpAnyIn_take (i := 3) (v := ?_) rfl rfl (by kernel_rfl) (by kernel_rfl) (by kernel_rfl) (fun _ _ _ h => h) ⟨Or.inl ⟨by rfl, by intro w; go_simp; first | done | with_reducible rfl⟩, fun _ => rfl⟩ ?_
                simp only [List.getElem_toArray, List.getElem_cons_succ, List.getElem_cons_zero, Act.put, List.setIfInBounds_toArray, List.set_cons_zero, List.set_cons_succ]
                refine wpAnyIn_take (i := 4) (v := ?_) rfl rfl (by kernel_rfl) (by kernel_rfl) (by kernel_rfl) (fun _ _ _ h => h) ⟨Or.inl ⟨by rfl, by intro w; go_simp; first | done | with_reducible rfl⟩, fun _ => rfl⟩ ?_
                simp only [List.getElem_toArray, List.getElem_cons_succ, List.getElem_cons_zero, Act.put, List.setIfInBounds_toArray, List.set_cons_zero, List.set_cons_succ]
                refine wpAnyIn_take (i := 5) (v := ?_) rfl rfl (by kernel_rfl) (by kernel_rfl) (by kernel_rfl) (fun _ _ _ h => h) ⟨Or.inl ⟨by rfl, by intro w; go_simp; first | done | with_reducible rfl⟩, fun _ => rfl⟩ ?_
                simp only [List.getElem_toArray, List.getElem_cons_succ, List.getElem_cons_zero, Act.put, List.setIfInBounds_toArray, List.set_cons_zero, List.set_cons_succ]
                refine wpAnyIn_take (i := 7) (v := ?_) rfl rfl (by kernel_rfl) (by kernel_rfl) (by kernel_rfl) (fun _ _ _ h => h) ⟨Or.inl ⟨by rfl, by intro w; go_simp; first | done | with_reducible rfl⟩, fun _ => rfl⟩ ?_
                simp only [List.getElem_toArray, List.getElem_cons_succ, List.getElem_cons_zero, Act.put, List.setIfInBounds_toArray, List.set_cons_zero, List.set_cons_succ]
                refine wpAnyIn_ready (rs := [6, 9]) (by kernel_rfl) (by simp) ?_
                refine AllReadyIn.cons rfl (fun K hK => ?_) ?_
                · have hK' := hK; clear hK; have hK := hK'; clear hK'
                  go_simp
                  refine hK _ _ ?_
                  clear hK K
                  refine wpAnyIn_ready (rs := [8, 9]) (by kernel_rfl) (by simp) ?_
                  refine AllReadyIn.cons rfl (fun K hK => ?_) ?_
                  · have hK' := hK; clear hK; have hK := hK'; clear hK'
                    go_simp
                    gi_wp2_with (refine ⟨trivial, ?_⟩; gi_at_call 26; refine (callsIn_wide.2 (begins_any _ _ n c n2 c2 l x.2 _ E1 E2 hn hm)).mono ?_; rintro e w5 ⟨rfl, b5⟩)
                    have hI5 := Lib.hid (hId.out.keep b5)
                    have E1x : ES w5 A n l := SL.keep E1 b5
                    have d3 := hI5.out.box.cell
                    have d9 := hI5.out.ob.cell
                    have g9 := hI5.out.ob.frozen
                    have hbx5 := Nat.lt_of_lt_of_le hbx b5.size
                    have u0 := (b5.cell (p := ⟨bx, o + n * 3, none⟩) hbx).trans v0
                    have u1 := (b5.cell (p := ⟨bx, o + n * 3 + 1, none⟩) hbx).trans v1
                    have u2 := (b5.cell (p := ⟨bx, o + n * 3 + 2, none⟩) hbx).trans v2
                    refine wpAnyIn_ready (rs := [9]) (by kernel_rfl) (by simp) ?_
                    refine AllReadyIn.cons rfl (fun K hK => ?_) ?_
                    · have hK' := hK; clear hK; have hK := hK'; clear hK'
                      go_simp
                      refine hK _ _ ?_
                      clear hK K
                      refine wpAnyIn_take (i := 10) (v := ?_) rfl rfl (by kernel_rfl) (by kernel_rfl) (by kernel_rfl) (fun _ _ _ h => h) ⟨Or.inl ⟨by rfl, by intro w; go_simp; first | done | with_reducible rfl⟩, fun _ => rfl⟩ ?_
                      simp only [List.getElem_toArray, List.getElem_cons_succ, List.getElem_cons_zero, Act.put, List.setIfInBounds_toArray, List.set_cons_zero, List.set_cons_succ]
                      refine wpAnyIn_take (i := 11) (v := ?_) rfl rfl (by kernel_rfl) (by kernel_rfl) (by kernel_rfl) (fun _ _ _ h => h) ⟨Or.inl ⟨by rfl, by intro w; go_simp; first | done | with_reducible rfl⟩, fun _ => rfl⟩ ?_
                      simp only [List.getElem_toArray, List.getElem_cons_succ, List.getElem_cons_zero, Act.put, List.setIfInBounds_toArray, List.set_cons_zero, List.set_cons_succ]
                      refine wpAnyIn_take (i := 12) (v := ?_) rfl rfl (by kernel_rfl) (by kernel_rfl) (by kernel_rfl) (fun _ _ _ h => h) ⟨Or.inl ⟨by rfl, by intro w; go_simp; first | done | with_reducible rfl⟩, fun _ => rfl⟩ ?_
                      simp only [List.getElem_toArray, List.getElem_cons_succ, List.getElem_cons_zero, Act.put, List.setIfInBounds_toArray, List.set_cons_zero, List.set_cons_succ]
                      refine wpAnyIn_take (i := 13) (v := ?_) rfl rfl (by kernel_rfl) (by kernel_rfl) (by kernel_rfl) (fun _ _ _ h => h) ⟨Or.inl ⟨by rfl, by intro w; go_simp; first | done | with_reducible rfl⟩, fun _ => rfl⟩ ?_
                      simp only [List.getElem_toArray, List.getElem_cons_succ, List.getElem_cons_zero, Act.put, List.setIfInBounds_toArray, List.set_cons_zero, List.set_cons_succ]
                      refine wpAnyIn_take (i := 15) (v := ?_) rfl rfl (by kernel_rfl) (by kernel_rfl) (by kernel_rfl) (fun _ _ _ h => h) ⟨Or.inl ⟨by rfl, by intro w; go_simp; first | done | with_reducible rfl⟩, fun _ => rfl⟩ ?_
                      simp only [List.getElem_toArray, List.getElem_cons_succ, List.getElem_cons_zero, Act.put, List.setIfInBounds_toArray, List.set_cons_zero, List.set_cons_succ]
                      refine wpAnyIn_ready (rs := [14, 16]) (by kernel_rfl) (by simp) ?_
                      refine AllReadyIn.cons rfl (fun K hK => ?_) ?_
                      · have hK' := hK; clear hK; have hK := hK'; clear hK'
                        go_simp
                        refine hK _ _ ?_
                        clear hK K
                        refine wpAnyIn_ready (rs := [16]) (by kernel_rfl) (by simp) ?_
                        refine AllReadyIn.cons rfl (fun K hK => ?_) ?_
                        · have hK' := hK; clear hK; have hK := hK'; clear hK'
                          go_simp
                          refine hK _ _ ?_
                          clear hK K
                          refine wpAnyIn_take (i := 17) (v := ?_) rfl rfl (by kernel_rfl) (by kernel_rfl) (by kernel_rfl) (fun _ _ _ h => h) ⟨Or.inl ⟨by rfl, by intro w; go_simp; first | done | with_reducible rfl⟩, fun _ => rfl⟩ ?_
                          simp only [List.getElem_toArray, List.getElem_cons_succ, List.getElem_cons_zero, Act.put, List.setIfInBounds_toArray, List.set_cons_zero, List.set_cons_succ]
                          refine wpAnyIn_take (i := 18) (v := ?_) rfl rfl (by kernel_rfl) (by kernel_rfl) (by kernel_rfl) (fun _ _ _ h => h) ⟨Or.inl ⟨by rfl, by intro w; go_simp; first | done | with_reducible rfl⟩, fun _ => rfl⟩ ?_
                          simp only [List.getElem_toArray, List.getElem_cons_succ, List.getElem_cons_zero, Act.put, List.setIfInBounds_toArray, List.set_cons_zero, List.set_cons_succ]
                          refine wpAnyIn_ready (rs := [19]) (by kernel_rfl) (by simp) ?_
                          refine AllReadyIn.cons rfl (fun K hK => ?_) ?_
                          · have hK' := hK; clear hK; have hK := hK'; clear hK'
                            go_simp
                            refine hK _ _ ?_
                            clear hK K
                            refine wpAnyIn_ready (rs := [20]) (by kernel_rfl) (by simp) ?_
                            refine AllReadyIn.cons rfl (fun K hK => ?_) ?_
                            · have hK' := hK; clear hK; have hK := hK'; clear hK'
                              go_simp
                              gi_wp2_with (refine ⟨trivial, ?_⟩; gi_at_call 27; refine (callsIn_wide.2 (contains_any A1 n1 c1 (candF l pre) (x0, x1, x2) _ hI5.out.own.es (by have := hI5.out.small; omega))).mono ?_; rintro e w6 ⟨rfl, b6⟩; rw [hin])
                              have hI6 := Lib.hid (hI5.out.keep b6)
                              have m3 := hI6.out.box.cell
                              have m9 := hI6.out.ob.cell
                              have n9 := hI6.out.ob.frozen
                              have l9 := hI6.out.ob.lt
                              have l3 := hI6.out.box.lt
                              have t0 := (b6.cell (p := ⟨bx, o + n * 3, none⟩) hbx5).trans u0
                              have t1 := (b6.cell (p := ⟨bx, o + n * 3 + 1, none⟩) hbx5).trans u1
                              have t2 := (b6.cell (p := ⟨bx, o + n * 3 + 2, none⟩) hbx5).trans u2
                              refine wpAnyIn_take (i := 21) (v := ?_) rfl rfl (by kernel_rfl) (by kernel_rfl) (by kernel_rfl) (fun _ _ _ h => h) ⟨Or.inl ⟨by rfl, by intro w; go_simp; first | done | with_reducible rfl⟩, fun _ => rfl⟩ ?_
                              simp only [List.getElem_toArray, List.getElem_cons_succ, List.getElem_cons_zero, Act.put, List.setIfInBounds_toArray, List.set_cons_zero, List.set_cons_succ]
                              refine wpAnyIn_take (i := 22) (v := ?_) rfl rfl (by kernel_rfl) (by kernel_rfl) (by kernel_rfl) (fun _ _ _ h => h) ⟨Or.inl ⟨by rfl, by intro w; go_simp; first | done | with_reducible rfl⟩, fun _ => rfl⟩ ?_
                              simp only [List.getElem_toArray, List.getElem_cons_succ, List.getElem_cons_zero, Act.put, List.setIfInBounds_toArray, List.set_cons_zero, List.set_cons_succ]
                              refine wpAnyIn_done (by kernel_rfl) ?_ _
                              gi_wp2
                              refine wpIn_region_any (by kernel_rfl) ?_
                              try (change wpAnyIn _ _ _ _ _ _ _ _ _ (World.drew _))
                              refine wpAnyIn_round (l := l') rfl (by intro i o hi c; revert hi; exact noDefer_spec (by kernel_rfl) i o c) _ _ _ _ ?_
                              refine wpAnyIn_take (i := 1) (v := ?_) rfl rfl (by kernel_rfl) (by kernel_rfl) (by kernel_rfl) (fun _ _ _ h => h) ⟨Or.inl ⟨by rfl, by intro w; go_simp; first | done | with_reducible rfl⟩, fun _ => rfl⟩ ?_
                              simp only [List.getElem_toArray, List.getElem_cons_succ, List.getElem_cons_zero, Act.put, List.setIfInBounds_toArray, List.set_cons_zero, List.set_cons_succ]
                              refine wpAnyIn_ready (rs := [0, 2]) (by kernel_rfl) (by simp) ?_
                              refine AllReadyIn.cons rfl (fun K hK => ?_) ?_
                              · have hK' := hK; clear hK; have hK := hK'; clear hK'
                                go_simp
                                refine hK _ _ ?_
                                clear hK K
                                refine wpAnyIn_ready (rs := [2]) (by kernel_rfl) (by simp) ?_
                                refine AllReadyIn.cons rfl (fun K hK => ?_) ?_
                                · have hK' := hK; clear hK; have hK := hK'; clear hK'
                                  go_simp
                                  refine hK _ _ ?_
                                  clear hK K
                                  refine wpAnyIn_take (i := 3) (v := ?_) rfl rfl (by kernel_rfl) (by kernel_rfl) (by kernel_rfl) (fun _ _ _ h => h) ⟨Or.inl ⟨by rfl, by intro w; go_simp; first | done | with_reducible rfl⟩, fun _ => rfl⟩ ?_
                                  simp only [List.getElem_toArray, List.getElem_cons_succ, List.getElem_cons_zero, Act.put, List.setIfInBounds_toArray, List.set_cons_zero, List.set_cons_succ]
                                  refine wpAnyIn_take (i := 4) (v := ?_) rfl rfl (by kernel_rfl) (by kernel_rfl) (by kernel_rfl) (fun _ _ _ h => h) ⟨Or.inl ⟨by rfl, by intro w; go_simp; first | done | with_reducible rfl⟩, fun _ => rfl⟩ ?_
                                  simp only [List.getElem_toArray, List.getElem_cons_succ, List.getElem_cons_zero, Act.put, List.setIfInBounds_toArray, List.set_cons_zero, List.set_cons_succ]
                                  refine wpAnyIn_ready (rs := [5]) (by kernel_rfl) (by simp) ?_
                                  refine AllReadyIn.cons rfl (fun K hK => ?_) ?_
                                  · have hK' := hK; clear hK; have hK := hK'; clear hK'
                                    go_simp
                                    refine hK _ _ ?_
                                    clear hK K
                                    refine wpAnyIn_ready (rs := [6]) (by kernel_rfl) (by simp) ?_
                                    refine AllReadyIn.cons rfl (fun K hK => ?_) ?_
                                    · have hK' := hK; clear hK; have hK := hK'; clear hK'
                                      go_simp
                                      refine hK _ _ ?_
                                      clear hK K
                                      refine wpAnyIn_ready (rs := [7]) (by kernel_rfl) (by simp) ?_
                                      refine AllReadyIn.cons rfl (fun K hK => ?_) ?_
                                      · have hK' := hK; clear hK; have hK := hK'; clear hK'
                                        obtain ⟨A3, c3, W3, hrun, o3, g3⟩ := OwnE.push2 (W := w6.drew) (hI6.out.keep (Below.refl _ _).drew).own (by have := hI6.out.small; omega) (x0, x1, x2) 1
                                        go_simp
                                        have hrun' := (show (appSem #[25, 25] 25 #[.slice A1 n1 c1, .slice (some ⟨w6.heap.size, 0, none⟩) 1 1]).run Tryd.prog ((w6.alloc (.cells #[.int .i64 x0, .int .i64 x1, .int .i64 x2] 56)).drew) = _ from hrun)
                                        rw [hrun']
                                        go_simp
                                        have hX := Lib.hid ((hI6.out.keep (Below.refl _ _).drew).pushed o3 g3 hn1 hb9w hbq0)
                                        have x9 := hX.out.1.cell
                                        have y9 := hX.out.1.frozen
                                        refine hK _ _ ?_
                                        clear hK K
                                        refine wpAnyIn_ready (rs := [8]) (by kernel_rfl) (by simp) ?_
                                        refine AllReadyIn.cons rfl (fun K hK => ?_) ?_
                                        · have hK' := hK; clear hK; have hK := hK'; clear hK'
                                          go_simp
                                          refine hK _ _ ?_
                                          clear hK K
                                          refine wpAnyIn_done (by kernel_rfl) ?_ _
                                          gi_wp2
                                          exact hfin.out b9 w6.drew W3 A3 c3 _ ((((Below.refl _ _).drew.trans b5).trans (b6.mono b5.size)).drew) (fun j o hj ho => hI6.out.own.rowCells j o hj ho) g3 hX.out.2 hI6.out.bs hI6.out.bn (hI6.out.own.rowNe hI6.out.bs (by decide)) (hI6.out.own.rowNe hI6.out.bn (by decide))
                                        exact AllReadyIn.nil
                                      exact AllReadyIn.nil
                                    exact AllReadyIn.nil
                                  exact AllReadyIn.nil
                                exact AllReadyIn.nil
                              refine AllReadyIn.cons rfl (fun K hK => ?_) ?_
                              · have hK' := hK; clear hK; have hK := hK'; clear hK'
                                go_simp
                                refine hK _ _ ?_
                                clear hK K
                                refine wpAnyIn_take (i := 3) (v := ?_) rfl rfl (by kernel_rfl) (by kernel_rfl) (by kernel_rfl) (fun _ _ _ h => h) ⟨Or.inl ⟨by rfl, by intro w; go_simp; first | done | with_reducible rfl⟩, fun _ => rfl⟩ ?_
                                simp only [List.getElem_toArray, List.getElem_cons_succ, List.getElem_cons_zero, Act.put, List.setIfInBounds_toArray, List.set_cons_zero, List.set_cons_succ]
                                refine wpAnyIn_take (i := 4) (v := ?_) rfl rfl (by kernel_rfl) (by kernel_rfl) (by kernel_rfl) (fun _ _ _ h => h) ⟨Or.inl ⟨by rfl, by intro w; go_simp; first | done | with_reducible rfl⟩, fun _ => rfl⟩ ?_
                                simp only [List.getElem_toArray, List.getElem_cons_succ, List.getElem_cons_zero, Act.put, List.setIfInBounds_toArray, List.set_cons_zero, List.set_cons_succ]
                                refine wpAnyIn_ready (rs := [0, 5]) (by kernel_rfl) (by simp) ?_
                                refine AllReadyIn.cons rfl (fun K hK => ?_) ?_
                                · have hK' := hK; clear hK; have hK := hK'; clear hK'
                                  go_simp
                                  refine hK _ _ ?_
                                  clear hK K
                                  refine wpAnyIn_ready (rs := [5]) (by kernel_rfl) (by simp) ?_
                                  refine AllReadyIn.cons rfl (fun K hK => ?_) ?_
                                  · have hK' := hK; clear hK; have hK := hK'; clear hK'
                                    go_simp
                                    refine hK _ _ ?_
                                    clear hK K
                                    refine wpAnyIn_ready (rs := [6]) (by kernel_rfl) (by simp) ?_
                                    refine AllReadyIn.cons rfl (fun K hK => ?_) ?_
                                    · have hK' := hK; clear hK; have hK := hK'; clear hK'
                                      go_simp
                                      refine hK _ _ ?_
                                      clear hK K
                                      refine wpAnyIn_ready (rs := [7]) (by kernel_rfl) (by simp) ?_
                                      refine AllReadyIn.cons rfl (fun K hK => ?_) ?_
                                      · have hK' := hK; clear hK; have hK := hK'; clear hK'
                                        obtain ⟨A3, c3, W3, hrun, o3, g3⟩ := OwnE.push2 (W := w6.drew) (hI6.out.keep (Below.refl _ _).drew).own (by have := hI6.out.small; omega) (x0, x1, x2) 1
                                        go_simp
                                        have hrun' := (show (appSem #[25, 25] 25 #[.slice A1 n1 c1, .slice (some ⟨w6.heap.size, 0, none⟩) 1 1]).run Tryd.prog ((w6.alloc (.cells #[.int .i64 x0, .int .i64 x1, .int .i64 x2] 56)).drew) = _ from hrun)
                                        rw [hrun']
                                        go_simp
                                        have hX := Lib.hid ((hI6.out.keep (Below.refl _ _).drew).pushed o3 g3 hn1 hb9w hbq0)
                                        have x9 := hX.out.1.cell
                                        have y9 := hX.out.1.frozen
                                        refine hK _ _ ?_
                                        clear hK K
                                        refine wpAnyIn_ready (rs := [8]) (by kernel_rfl) (by simp) ?_
                                        refine AllReadyIn.cons rfl (fun K hK => ?_) ?_
                                        · have hK' := hK; clear hK; have hK := hK'; clear hK'
                                          go_simp
                                          refine hK _ _ ?_
                                          clear hK K
                                          refine wpAnyIn_done (by kernel_rfl) ?_ _
                                          gi_wp2
                                          exact hfin.out b9 w6.drew W3 A3 c3 _ ((((Below.refl _ _).drew.trans b5).trans (b6.mono b5.size)).drew) (fun j o hj ho => hI6.out.own.rowCells j o hj ho) g3 hX.out.2 hI6.out.bs hI6.out.bn (hI6.out.own.rowNe hI6.out.bs (by decide)) (hI6.out.own.rowNe hI6.out.bn (by decide))
                                        exact AllReadyIn.nil
                                      exact AllReadyIn.nil
                                    exact AllReadyIn.nil
                                  exact AllReadyIn.nil
                                refine AllReadyIn.cons rfl (fun K hK => ?_) ?_
                                · have hK' := hK; clear hK; have hK := hK'; clear hK'
                                  go_simp
                                  refine hK _ _ ?_
                                  clear hK K
                                  refine wpAnyIn_ready (rs := [0, 6]) (by kernel_rfl) (by simp) ?_
                                  refine AllReadyIn.cons rfl (fun K hK => ?_) ?_
                                  · have hK' := hK; clear hK; have hK := hK'; clear hK'
                                    go_simp
                                    refine hK _ _ ?_
                                    clear hK K
                                    refine wpAnyIn_ready (rs := [6]) (by kernel_rfl) (by simp) ?_
                                    refine AllReadyIn.cons rfl (fun K hK => ?_) ?_
                                    · have hK' := hK; clear hK; have hK := hK'; clear hK'
                                      go_simp
                                      refine hK _ _ ?_
                                      clear hK K
                                      refine wpAnyIn_ready (rs := [7]) (by kernel_rfl) (by simp) ?_
                                      refine AllReadyIn.cons rfl (fun K hK => ?_) ?_
                                      · have hK' := hK; clear hK; have hK := hK'; clear hK'
                                        obtain ⟨A3, c3, W3, hrun, o3, g3⟩ := OwnE.push2 (W := w6.drew) (hI6.out.keep (Below.refl _ _).drew).own (by have := hI6.out.small; omega) (x0, x1, x2) 1
                                        go_simp
                                        have hrun' := (show (appSem #[25, 25] 25 #[.slice A1 n1 c1, .slice (some ⟨w6.heap.size, 0, none⟩) 1 1]).run Tryd.prog ((w6.alloc (.cells #[.int .i64 x0, .int .i64 x1, .int .i64 x2] 56)).drew) = _ from hrun)
                                        rw [hrun']
                                        go_simp
                                        have hX := Lib.hid ((hI6.out.keep (Below.refl _ _).drew).pushed o3 g3 hn1 hb9w hbq0)
                                        have x9 := hX.out.1.cell
                                        have y9 := hX.out.1.frozen
                                        refine hK _ _ ?_
                                        clear hK K
                                        refine wpAnyIn_ready (rs := [8]) (by kernel_rfl) (by simp) ?_
                                        refine AllReadyIn.cons rfl (fun K hK => ?_) ?_
                                        · have hK' := hK; clear hK; have hK := hK'; clear hK'
                                          go_simp
                                          refine hK _ _ ?_
                                          clear hK K
                                          refine wpAnyIn_done (by kernel_rfl) ?_ _
                                          gi_wp2
                                          exact hfin.out b9 w6.drew W3 A3 c3 _ ((((Below.refl _ _).drew.trans b5).trans (b6.mono b5.size)).drew) (fun j o hj ho => hI6.out.own.rowCells j o hj ho) g3 hX.out.2 hI6.out.bs hI6.out.bn (hI6.out.own.rowNe hI6.out.bs (by decide)) (hI6.out.own.rowNe hI6.out.bn (by decide))
                                        exact AllReadyIn.nil
                                      exact AllReadyIn.nil
                                    exact AllReadyIn.nil
                                  refine AllReadyIn.cons rfl (fun K hK => ?_) ?_
                                  · have hK' := hK; clear hK; have hK := hK'; clear hK'
                                    go_simp
                                    refine hK _ _ ?_
                                    clear hK K
                                    refine wpAnyIn_ready (rs := [0]) (by kernel_rfl) (by simp) ?_
                                    refine AllReadyIn.cons rfl (fun K hK => ?_) ?_
                                    · have hK' := hK; clear hK; have hK := hK'; clear hK'
                                      go_simp
                                      refine hK _ _ ?_
                                      clear hK K
                                      refine wpAnyIn_ready (rs := [7]) (by kernel_rfl) (by simp) ?_
                                      refine AllReadyIn.cons rfl (fun K hK => ?_) ?_
                                      · have hK' := hK; clear hK; have hK := hK'; clear hK'
                                        obtain ⟨A3, c3, W3, hrun, o3, g3⟩ := OwnE.push2 (W := w6.drew) (hI6.out.keep (Below.refl _ _).drew).own (by have := hI6.out.small; omega) (x0, x1, x2) 1
                                        go_simp
                                        have hrun' := (show (appSem #[25, 25] 25 #[.slice A1 n1 c1, .slice (some ⟨w6.heap.size, 0, none⟩) 1 1]).run Tryd.prog ((w6.alloc (.cells #[.int .i64 x0, .int .i64 x1, .int .i64 x2] 56)).drew) = _ from hrun)
                                        rw [hrun']
                                        go_simp
                                        have hX := Lib.hid ((hI6.out.keep (Below.refl _ _).drew).pushed o3 g3 hn1 hb9w hbq0)
                                        have x9 := hX.out.1.cell
                                        have y9 := hX.out.1.frozen
                                        refine hK _ _ ?_
                                        clear hK K
                                        refine wpAnyIn_ready (rs := [8]) (by kernel_rfl) (by simp) ?_
                                        refine AllReadyIn.cons rfl (fun K hK => ?_) ?_
                                        · have hK' := hK; clear hK; have hK := hK'; clear hK'
                                          go_simp
                                          refine hK _ _ ?_
                                          clear hK K
                                          refine wpAnyIn_done (by kernel_rfl) ?_ _
                                          gi_wp2
                                          exact hfin.out b9 w6.drew W3 A3 c3 _ ((((Below.refl _ _).drew.trans b5).trans (b6.mono b5.size)).drew) (fun j o hj ho => hI6.out.own.rowCells j o hj ho) g3 hX.out.2 hI6.out.bs hI6.out.bn (hI6.out.own.rowNe hI6.out.bs (by decide)) (hI6.out.own.rowNe hI6.out.bn (by decide))
                                        exact AllReadyIn.nil
                                      exact AllReadyIn.nil
                                    exact AllReadyIn.nil
                                  exact AllReadyIn.nil
                                exact AllReadyIn.nil
                              exact AllReadyIn.nil
                            exact AllReadyIn.nil
                          exact AllReadyIn.nil
                        exact AllReadyIn.nil
                      refine AllReadyIn.cons rfl (fun K hK => ?_) ?_
                      · have hK' := hK; clear hK; have hK := hK'; clear hK'
                        go_simp
                        refine hK _ _ ?_
                        clear hK K
                        refine wpAnyIn_take (i := 17) (v := ?_) rfl rfl (by kernel_rfl) (by kernel_rfl) (by kernel_rfl) (fun _ _ _ h => h) ⟨Or.inl ⟨by rfl, by intro w; go_simp; first | done | with_reducible rfl⟩, fun _ => rfl⟩ ?_
                        simp only [List.getElem_toArray, List.getElem_cons_succ, List.getElem_cons_zero, Act.put, List.setIfInBounds_toArray, List.set_cons_zero, List.set_cons_succ]
                        refine wpAnyIn_take (i := 18) (v := ?_) rfl rfl (by kernel_rfl) (by kernel_rfl) (by kernel_rfl) (fun _ _ _ h => h) ⟨Or.inl ⟨by rfl, by intro w; go_simp; first | done | with_reducible rfl⟩, fun _ => rfl⟩ ?_
                        simp only [List.getElem_toArray, List.getElem_cons_succ, List.getElem_cons_zero, Act.put, List.setIfInBounds_toArray, List.set_cons_zero, List.set_cons_succ]
                        refine wpAnyIn_ready (rs := [14, 19]) (by kernel_rfl) (by simp) ?_
                        refine AllReadyIn.cons rfl (fun K hK => ?_) ?_
                        · have hK' := hK; clear hK; have hK := hK'; clear hK'
                          go_simp
                          refine hK _ _ ?_
                          clear hK K
                          refine wpAnyIn_ready (rs := [19]) (by kernel_rfl) (by simp) ?_
                          refine AllReadyIn.cons rfl (fun K hK => ?_) ?_
                          · have hK' := hK; clear hK; have hK := hK'; clear hK'
                            go_simp
                            refine hK _ _ ?_
                            clear hK K
                            refine wpAnyIn_ready (rs := [20]) (by kernel_rfl) (by simp) ?_
                            refine AllReadyIn.cons rfl (fun K hK => ?_) ?_
                            · have hK' := hK; clear hK; have hK := hK'; clear hK'
                              go_simp
                              gi_wp2_with (refine ⟨trivial, ?_⟩; gi_at_call 27; refine (callsIn_wide.2 (contains_any A1 n1 c1 (candF l pre) (x0, x1, x2) _ hI5.out.own.es (by have := hI5.out.small; omega))).mono ?_; rintro e w6 ⟨rfl, b6⟩; rw [hin])
                              have hI6 := Lib.hid (hI5.out.keep b6)
                              have m3 := hI6.out.box.cell
                              have m9 := hI6.out.ob.cell
                              have n9 := hI6.out.ob.frozen
                              have l9 := hI6.out.ob.lt
                              have l3 := hI6.out.box.lt
                              have t0 := (b6.cell (p := ⟨bx, o + n * 3, none⟩) hbx5).trans u0
                              have t1 := (b6.cell (p := ⟨bx, o + n * 3 + 1, none⟩) hbx5).trans u1
                              have t2 := (b6.cell (p := ⟨bx, o + n * 3 + 2, none⟩) hbx5).trans u2
                              refine wpAnyIn_take (i := 21) (v := ?_) rfl rfl (by kernel_rfl) (by kernel_rfl) (by kernel_rfl) (fun _ _ _ h => h) ⟨Or.inl ⟨by rfl, by intro w; go_simp; first | done | with_reducible rfl⟩, fun _ => rfl⟩ ?_
                              simp only [List.getElem_toArray, List.getElem_cons_succ, List.getElem_cons_zero, Act.put, List.setIfInBounds_toArray, List.set_cons_zero, List.set_cons_succ]
                              refine wpAnyIn_take (i := 22) (v := ?_) rfl rfl (by kernel_rfl) (by kernel_rfl) (by kernel_rfl) (fun _ _ _ h => h) ⟨Or.inl ⟨by rfl, by intro w; go_simp; first | done | with_reducible rfl⟩, fun _ => rfl⟩ ?_
                              simp only [List.getElem_toArray, List.getElem_cons_succ, List.getElem_cons_zero, Act.put, List.setIfInBounds_toArray, List.set_cons_zero, List.set_cons_succ]
                              refine wpAnyIn_done (by kernel_rfl) ?_ _
                              gi_wp2
                              refine wpIn_region_any (by kernel_rfl) ?_
                              try (change wpAnyIn _ _ _ _ _ _ _ _ _ (World.drew _))
                              refine wpAnyIn_round (l := l') rfl (by intro i o hi c; revert hi; exact noDefer_spec (by kernel_rfl) i o c) _ _ _ _ ?_
                              refine wpAnyIn_take (i := 1) (v := ?_) rfl rfl (by kernel_rfl) (by kernel_rfl) (by kernel_rfl) (fun _ _ _ h => h) ⟨Or.inl ⟨by rfl, by intro w; go_simp; first | done | with_reducible rfl⟩, fun _ => rfl⟩ ?_
                              simp only [List.getElem_toArray, List.getElem_cons_succ, List.getElem_cons_zero, Act.put, List.setIfInBounds_toArray, List.set_cons_zero, List.set_cons_succ]
                              refine wpAnyIn_ready (rs := [0, 2]) (by kernel_rfl) (by simp) ?_
                              refine AllReadyIn.cons rfl (fun K hK => ?_) ?_
                              · have hK' := hK; clear hK; have hK := hK'; clear hK'
                                go_simp
                                refine hK _ _ ?_
                                clear hK K
                                refine wpAnyIn_ready (rs := [2]) (by kernel_rfl) (by simp) ?_
                                refine AllReadyIn.cons rfl (fun K hK => ?_) ?_
                                · have hK' := hK; clear hK; have hK := hK'; clear hK'
                                  go_simp
                                  refine hK _ _ ?_
                                  clear hK K
                                  refine wpAnyIn_take (i := 3) (v := ?_) rfl rfl (by kernel_rfl) (by kernel_rfl) (by kernel_rfl) (fun _ _ _ h => h) ⟨Or.inl ⟨by rfl, by intro w; go_simp; first | done | with_reducible rfl⟩, fun _ => rfl⟩ ?_
                                  simp only [List.getElem_toArray, List.getElem_cons_succ, List.getElem_cons_zero, Act.put, List.setIfInBounds_toArray, List.set_cons_zero, List.set_cons_succ]
                                  refine wpAnyIn_take (i := 4) (v := ?_) rfl rfl (by kernel_rfl) (by kernel_rfl) (by kernel_rfl) (fun _ _ _ h => h) ⟨Or.inl ⟨by rfl, by intro w; go_simp; first | done | with_reducible rfl⟩, fun _ => rfl⟩ ?_
                                  simp only [List.getElem_toArray, List.getElem_cons_succ, List.getElem_cons_zero, Act.put, List.setIfInBounds_toArray, List.set_cons_zero, List.set_cons_succ]
                                  refine wpAnyIn_ready (rs := [5]) (by kernel_rfl) (by simp) ?_
                                  refine AllReadyIn.cons rfl (fun K hK => ?_) ?_
                                  · have hK' := hK; clear hK; have hK := hK'; clear hK'
                                    go_simp
                                    refine hK _ _ ?_
                                    clear hK K
                                    refine wpAnyIn_ready (rs := [6]) (by kernel_rfl) (by simp) ?_
                                    refine AllReadyIn.cons rfl (fun K hK => ?_) ?_
                                    · have hK' := hK; clear hK; have hK := hK'; clear hK'
                                      go_simp
                                      refine hK _ _ ?_
                                      clear hK K
                                      refine wpAnyIn_ready (rs := [7]) (by kernel_rfl) (by simp) ?_
                                      refine AllReadyIn.cons rfl (fun K hK => ?_) ?_
                                      · have hK' := hK; clear hK; have hK := hK'; clear hK'
                                        obtain ⟨A3, c3, W3, hrun, o3, g3⟩ := OwnE.push2 (W := w6.drew) (hI6.out.keep (Below.refl _ _).drew).own (by have := hI6.out.small; omega) (x0, x1, x2) 1
                                        go_simp
                                        have hrun' := (show (appSem #[25, 25] 25 #[.slice A1 n1 c1, .slice (some ⟨w6.heap.size, 0, none⟩) 1 1]).run Tryd.prog ((w6.alloc (.cells #[.int .i64 x0, .int .i64 x1, .int .i64 x2] 56)).drew) = _ from hrun)
                                        rw [hrun']
                                        go_simp
                                        have hX := Lib.hid ((hI6.out.keep (Below.refl _ _).drew).pushed o3 g3 hn1 hb9w hbq0)
                                        have x9 := hX.out.1.cell
                                        have y9 := hX.out.1.frozen
                                        refine hK _ _ ?_
                                        clear hK K
                                        refine wpAnyIn_ready (rs := [8]) (by kernel_rfl) (by simp) ?_
                                        refine AllReadyIn.cons rfl (fun K hK => ?_) ?_
                                        · have hK' := hK; clear hK; have hK := hK'; clear hK'
                                          go_simp
                                          refine hK _ _ ?_
                                          clear hK K
                                          refine wpAnyIn_done (by kernel_rfl) ?_ _
                                          gi_wp2
                                          exact hfin.out b9 w6.drew W3 A3 c3 _ ((((Below.refl _ _).drew.trans b5).trans (b6.mono b5.size)).drew) (fun j o hj ho => hI6.out.own.rowCells j o hj ho) g3 hX.out.2 hI6.out.bs hI6.out.bn (hI6.out.own.rowNe hI6.out.bs (by decide)) (hI6.out.own.rowNe hI6.out.bn (by decide))
                                        exact AllReadyIn.nil
                                      exact AllReadyIn.nil
                                    exact AllReadyIn.nil
                                  exact AllReadyIn.nil
                                exact AllReadyIn.nil
                              refine AllReadyIn.cons rfl (fun K hK => ?_) ?_
                              · have hK' := hK; clear hK; have hK := hK'; clear hK'
                                go_simp
                                refine hK _ _ ?_
                                clear hK K
                                refine wpAnyIn_take (i := 3) (v := ?_) rfl rfl (by kernel_rfl) (by kernel_rfl) (by kernel_rfl) (fun _ _ _ h => h) ⟨Or.inl ⟨by rfl, by intro w; go_simp; first | done | with_reducible rfl⟩, fun _ => rfl⟩ ?_
                                simp only [List.getElem_toArray, List.getElem_cons_succ, List.getElem_cons_zero, Act.put, List.setIfInBounds_toArray, List.set_cons_zero, List.set_cons_succ]
                                refine wpAnyIn_take (i := 4) (v := ?_) rfl rfl (by kernel_rfl) (by kernel_rfl) (by kernel_rfl) (fun _ _ _ h => h) ⟨Or.inl ⟨by rfl, by intro w; go_simp; first | done | with_reducible rfl⟩, fun _ => rfl⟩ ?_
                                simp only [List.getElem_toArray, List.getElem_cons_succ, List.getElem_cons_zero, Act.put, List.setIfInBounds_toArray, List.set_cons_zero, List.set_cons_succ]
                                refine wpAnyIn_ready (rs := [0, 5]) (by kernel_rfl) (by simp) ?_
                                refine AllReadyIn.cons rfl (fun K hK => ?_) ?_
                                · have hK' := hK; clear hK; have hK := hK'; clear hK'
                                  go_simp
                                  refine hK _ _ ?_
                                  clear hK K
                                  refine wpAnyIn_ready (rs := [5]) (by kernel_rfl) (by simp) ?_
                                  refine AllReadyIn.cons rfl (fun K hK => ?_) ?_
                                  · have hK' := hK; clear hK; have hK := hK'; clear hK'
                                    go_simp
                                    refine hK _ _ ?_
                                    clear hK K
                                    refine wpAnyIn_ready (rs := [6]) (by kernel_rfl) (by simp) ?_
                                    refine AllReadyIn.cons rfl (fun K hK => ?_) ?_
                                    · have hK' := hK; clear hK; have hK := hK'; clear hK'
                                      go_simp
                                      refine hK _ _ ?_
                                      clear hK K
                                      refine wpAnyIn_ready (rs := [7]) (by kernel_rfl) (by simp) ?_
                                      refine AllReadyIn.cons rfl (fun K hK => ?_) ?_
                                      · have hK' := hK; clear hK; have hK := hK'; clear hK'
                                        obtain ⟨A3, c3, W3, hrun, o3, g3⟩ := OwnE.push2 (W := w6.drew) (hI6.out.keep (Below.refl _ _).drew).own (by have := hI6.out.small; omega) (x0, x1, x2) 1
                                        go_simp
                                        have hrun' := (show (appSem #[25, 25] 25 #[.slice A1 n1 c1, .slice (some ⟨w6.heap.size, 0, none⟩) 1 1]).run Tryd.prog ((w6.alloc (.cells #[.int .i64 x0, .int .i64 x1, .int .i64 x2] 56)).drew) = _ from hrun)
                                        rw [hrun']
                                        go_simp
                                        have hX := Lib.hid ((hI6.out.keep (Below.refl _ _).drew).pushed o3 g3 hn1 hb9w hbq0)
                                        have x9 := hX.out.1.cell
                                        have y9 := hX.out.1.frozen
                                        refine hK _ _ ?_
                                        clear hK K
                                        refine wpAnyIn_ready (rs := [8]) (by kernel_rfl) (by simp) ?_
                                        refine AllReadyIn.cons rfl (fun K hK => ?_) ?_
                                        · have hK' := hK; clear hK; have hK := hK'; clear hK'
                                          go_simp
                                          refine hK _ _ ?_
                                          clear hK K
                                          refine wpAnyIn_done (by kernel_rfl) ?_ _
                                          gi_wp2
                                          exact hfin.out b9 w6.drew W3 A3 c3 _ ((((Below.refl _ _).drew.trans b5).trans (b6.mono b5.size)).drew) (fun j o hj ho => hI6.out.own.rowCells j o hj ho) g3 hX.out.2 hI6.out.bs hI6.out.bn (hI6.out.own.rowNe hI6.out.bs (by decide)) (hI6.out.own.rowNe hI6.out.bn (by decide))
                                        exact AllReadyIn.nil
                                      exact AllReadyIn.nil
                                    exact AllReadyIn.nil
                                  exact AllReadyIn.nil
                                refine AllReadyIn.cons rfl (fun K hK => ?_) ?_
                                · have hK' := hK; clear hK; have hK := hK'; clear hK'
                                  go_simp
                                  refine hK _ _ ?_
                                  clear hK K
                                  refine wpAnyIn_ready (rs := [0, 6]) (by kernel_rfl) (by simp) ?_
                                  refine AllReadyIn.cons rfl (fun K hK => ?_) ?_
                                  · have hK' := hK; clear hK; have hK := hK'; clear hK'
                                    go_simp
                                    refine hK _ _ ?_
                                    clear hK K
                                    refine wpAnyIn_ready (rs := [6]) (by kernel_rfl) (by simp) ?_
                                    refine AllReadyIn.cons rfl (fun K hK => ?_) ?_
                                    · have hK' := hK; clear hK; have hK := hK'; clear hK'
                                      go_simp
                                      refine hK _ _ ?_
                                      clear hK K
                                      refine wpAnyIn_ready (rs := [7]) (by kernel_rfl) (by simp) ?_
                                      refine AllReadyIn.cons rfl (fun K hK => ?_) ?_
                                      · have hK' := hK; clear hK; have hK := hK'; clear hK'
                                        obtain ⟨A3, c3, W3, hrun, o3, g3⟩ := OwnE.push2 (W := w6.drew) (hI6.out.keep (Below.refl _ _).drew).own (by have := hI6.out.small; omega) (x0, x1, x2) 1
                                        go_simp
                                        have hrun' := (show (appSem #[25, 25] 25 #[.slice A1 n1 c1, .slice (some ⟨w6.heap.size, 0, none⟩) 1 1]).run Tryd.prog ((w6.alloc (.cells #[.int .i64 x0, .int .i64 x1, .int .i64 x2] 56)).drew) = _ from hrun)
                                        rw [hrun']
                                        go_simp
                                        have hX := Lib.hid ((hI6.out.keep (Below.refl _ _).drew).pushed o3 g3 hn1 hb9w hbq0)
                                        have x9 := hX.out.1.cell
                                        have y9 := hX.out.1.frozen
                                        refine hK _ _ ?_
                                        clear hK K
                                        refine wpAnyIn_ready (rs := [8]) (by kernel_rfl) (by simp) ?_
                                        refine AllReadyIn.cons rfl (fun K hK => ?_) ?_
                                        · have hK' := hK; clear hK; have hK := hK'; clear hK'
                                          go_simp
                                          refine hK _ _ ?_
                                          clear hK K
                                          refine wpAnyIn_done (by kernel_rfl) ?_ _
                                          gi_wp2
                                          exact hfin.out b9 w6.drew W3 A3 c3 _ ((((Below.refl _ _).drew.trans b5).trans (b6.mono b5.size)).drew) (fun j o hj ho => hI6.out.own.rowCells j o hj ho) g3 hX.out.2 hI6.out.bs hI6.out.bn (hI6.out.own.rowNe hI6.out.bs (by decide)) (hI6.out.own.rowNe hI6.out.bn (by decide))
                                        exact AllReadyIn.nil
                                      exact AllReadyIn.nil
                                    exact AllReadyIn.nil
                                  refine AllReadyIn.cons rfl (fun K hK => ?_) ?_
                                  · have hK' := hK; clear hK; have hK := hK'; clear hK'
                                    go_simp
                                    refine hK _ _ ?_
                                    clear hK K
                                    refine wpAnyIn_ready (rs := [0]) (by kernel_rfl) (by simp) ?_
                                    refine AllReadyIn.cons rfl (fun K hK => ?_) ?_
                                    · have hK' := hK; clear hK; have hK := hK'; clear hK'
                                      go_simp
                                      refine hK _ _ ?_
                                      clear hK K
                                      refine wpAnyIn_ready (rs := [7]) (by kernel_rfl) (by simp) ?_
                                      refine AllReadyIn.cons rfl (fun K hK => ?_) ?_
                                      · have hK' := hK; clear hK; have hK := hK'; clear hK'
                                        obtain ⟨A3, c3, W3, hrun, o3, g3⟩ := OwnE.push2 (W := w6.drew) (hI6.out.keep (Below.refl _ _).drew).own (by have := hI6.out.small; omega) (x0, x1, x2) 1
                                        go_simp
                                        have hrun' := (show (appSem #[25, 25] 25 #[.slice A1 n1 c1, .slice (some ⟨w6.heap.size, 0, none⟩) 1 1]).run Tryd.prog ((w6.alloc (.cells #[.int .i64 x0, .int .i64 x1, .int .i64 x2] 56)).drew) = _ from hrun)
                                        rw [hrun']
                                        go_simp
                                        have hX := Lib.hid ((hI6.out.keep (Below.refl _ _).drew).pushed o3 g3 hn1 hb9w hbq0)
                                        have x9 := hX.out.1.cell
                                        have y9 := hX.out.1.frozen
                                        refine hK _ _ ?_
                                        clear hK K
                                        refine wpAnyIn_ready (rs := [8]) (by kernel_rfl) (by simp) ?_
                                        refine AllReadyIn.cons rfl (fun K hK => ?_) ?_
                                        · have hK' := hK; clear hK; have hK := hK'; clear hK'
                                          go_simp
                                          refine hK _ _ ?_
                                          clear hK K
                                          refine wpAnyIn_done (by kernel_rfl) ?_ _
                                          gi_wp2
                                          exact hfin.out b9 w6.drew W3 A3 c3 _ ((((Below.refl _ _).drew.trans b5).trans (b6.mono b5.size)).drew) (fun j o hj ho => hI6.out.own.rowCells j o hj ho) g3 hX.out.2 hI6.out.bs hI6.out.bn (hI6.out.own.rowNe hI6.out.bs (by decide)) (hI6.out.own.rowNe hI6.out.bn (by decide))
                                        exact AllReadyIn.nil
                                      exact AllReadyIn.nil
                                    exact AllReadyIn.nil
                                  exact AllReadyIn.nil
                                exact AllReadyIn.nil
                              exact AllReadyIn.nil
                            exact AllReadyIn.nil
                          exact AllReadyIn.nil
                        refine AllReadyIn.cons rfl (fun K hK => ?_) ?_
                        · have hK' := hK; clear hK; have hK := hK'; clear hK'
                          go_simp
                          refine hK _ _ ?_
                          clear hK K
                          refine wpAnyIn_ready (rs := [14]) (by kernel_rfl) (by simp) ?_
                          refine AllReadyIn.cons rfl (fun K hK => ?_) ?_
                          · have hK' := hK; clear hK; have hK := hK'; clear hK'
                            go_simp
                            refine hK _ _ ?_
                            clear hK K
                            refine wpAnyIn_ready (rs := [20]) (by kernel_rfl) (by simp) ?_
                            refine AllReadyIn.cons rfl (fun K hK => ?_) ?_
                            · have hK' := hK; clear hK; have hK := hK'; clear hK'
                              go_simp
                              gi_wp2_with (refine ⟨trivial, ?_⟩; gi_at_call 27; refine (callsIn_wide.2 (contains_any A1 n1 c1 (candF l pre) (x0, x1, x2) _ hI5.out.own.es (by have := hI5.out.small; omega))).mono ?_; rintro e w6 ⟨rfl, b6⟩; rw [hin])
                              have hI6 := Lib.hid (hI5.out.keep b6)
                              have m3 := hI6.out.box.cell
                              have m9 := hI6.out.ob.cell
                              have n9 := hI6.out.ob.frozen
                              have l9 := hI6.out.ob.lt
                              have l3 := hI6.out.box.lt
                              have t0 := (b6.cell (p := ⟨bx, o + n * 3, none⟩) hbx5).trans u0
                              have t1 := (b6.cell (p := ⟨bx, o + n * 3 + 1, none⟩) hbx5).trans u1
                              have t2 := (b6.cell (p := ⟨bx, o + n * 3 + 2, none⟩) hbx5).trans u2
                              refine wpAnyIn_take (i := 21) (v := ?_) rfl rfl (by kernel_rfl) (by kernel_rfl) (by kernel_rfl) (fun _ _ _ h => h) ⟨Or.inl ⟨by rfl, by intro w; go_simp; first | done | with_reducible rfl⟩, fun _ => rfl⟩ ?_
                              simp only [List.getElem_toArray, List.getElem_cons_succ, List.getElem_cons_zero, Act.put, List.setIfInBounds_toArray, List.set_cons_zero, List.set_cons_succ]
                              refine wpAnyIn_take (i := 22) (v := ?_) rfl rfl (by kernel_rfl) (by kernel_rfl) (by kernel_rfl) (fun _ _ _ h => h) ⟨Or.inl ⟨by rfl, by intro w; go_simp; first | done | with_reducible rfl⟩, fun _ => rfl⟩ ?_
                              simp only [List.getElem_toArray, List.getElem_cons_succ, List.getElem_cons_zero, Act.put, List.setIfInBounds_toArray, List.set_cons_zero, List.set_cons_succ]
                              refine wpAnyIn_done (by kernel_rfl) ?_ _
                              gi_wp2
                              refine wpIn_region_any (by kernel_rfl) ?_
                              try (change wpAnyIn _ _ _ _ _ _ _ _ _ (World.drew _))
                              refine wpAnyIn_round (l := l') rfl (by intro i o hi c; revert hi; exact noDefer_spec (by kernel_rfl) i o c) _ _ _ _ ?_
                              refine wpAnyIn_take (i := 1) (v := ?_) rfl rfl (by kernel_rfl) (by kernel_rfl) (by kernel_rfl) (fun _ _ _ h => h) ⟨Or.inl ⟨by rfl, by intro w; go_simp; first | done | with_reducible rfl⟩, fun _ => rfl⟩ ?_
                              simp only [List.getElem_toArray, List.getElem_cons_succ, List.getElem_cons_zero, Act.put, List.setIfInBounds_toArray, List.set_cons_zero, List.set_cons_succ]
                              refine wpAnyIn_ready (rs := [0, 2]) (by kernel_rfl) (by simp) ?_
                              refine AllReadyIn.cons rfl (fun K hK => ?_) ?_
                              · have hK' := hK; clear hK; have hK := hK'; clear hK'
                                go_simp
                                refine hK _ _ ?_
                                clear hK K
                                refine wpAnyIn_ready (rs := [2]) (by kernel_rfl) (by simp) ?_
                                refine AllReadyIn.cons rfl (fun K hK => ?_) ?_
                                · have hK' := hK; clear hK; have hK := hK'; clear hK'
                                  go_simp
                                  refine hK _ _ ?_
                                  clear hK K
                                  refine wpAnyIn_take (i := 3) (v := ?_) rfl rfl (by kernel_rfl) (by kernel_rfl) (by kernel_rfl) (fun _ _ _ h => h) ⟨Or.inl ⟨by rfl, by intro w; go_simp; first | done | with_reducible rfl⟩, fun _ => rfl⟩ ?_
                                  simp only [List.getElem_toArray, List.getElem_cons_succ, List.getElem_cons_zero, Act.put, List.setIfInBounds_toArray, List.set_cons_zero, List.set_cons_succ]
                                  refine wpAnyIn_take (i := 4) (v := ?_) rfl rfl (by kernel_rfl) (by kernel_rfl) (by kernel_rfl) (fun _ _ _ h => h) ⟨Or.inl ⟨by rfl, by intro w; go_simp; first | done | with_reducible rfl⟩, fun _ => rfl⟩ ?_
                                  simp only [List.getElem_toArray, List.getElem_cons_succ, List.getElem_cons_zero, Act.put, List.setIfInBounds_toArray, List.set_cons_zero, List.set_cons_succ]
                                  refine wpAnyIn_ready (rs := [5]) (by kernel_rfl) (by simp) ?_
                                  refine AllReadyIn.cons rfl (fun K hK => ?_) ?_
                                  · have hK' := hK; clear hK; have hK := hK'; clear hK'
                                    go_simp
                                    refine hK _ _ ?_
                                    clear hK K
                                    refine wpAnyIn_ready (rs := [6]) (by kernel_rfl) (by simp) ?_
                                    refine AllReadyIn.cons rfl (fun K hK => ?_) ?_
                                    · have hK' := hK; clear hK; have hK := hK'; clear hK'
                                      go_simp
                                      refine hK _ _ ?_
                                      clear hK K
                                      refine wpAnyIn_ready (rs := [7]) (by kernel_rfl) (by simp) ?_
                                      refine AllReadyIn.cons rfl (fun K hK => ?_) ?_
                                      · have hK' := hK; clear hK; have hK := hK'; clear hK'
                                        obtain ⟨A3, c3, W3, hrun, o3, g3⟩ := OwnE.push2 (W := w6.drew) (hI6.out.keep (Below.refl _ _).drew).own (by have := hI6.out.small; omega) (x0, x1, x2) 1
                                        go_simp
                                        have hrun' := (show (appSem #[25, 25] 25 #[.slice A1 n1 c1, .slice (some ⟨w6.heap.size, 0, none⟩) 1 1]).run Tryd.prog ((w6.alloc (.cells #[.int .i64 x0, .int .i64 x1, .int .i64 x2] 56)).drew) = _ from hrun)
                                        rw [hrun']
                                        go_simp
                                        have hX := Lib.hid ((hI6.out.keep (Below.refl _ _).drew).pushed o3 g3 hn1 hb9w hbq0)
                                        have x9 := hX.out.1.cell
                                        have y9 := hX.out.1.frozen
                                        refine hK _ _ ?_
                                        clear hK K
                                        refine wpAnyIn_ready (rs := [8]) (by kernel_rfl) (by simp) ?_
                                        refine AllReadyIn.cons rfl (fun K hK => ?_) ?_
                                        · have hK' := hK; clear hK; have hK := hK'; clear hK'
                                          go_simp
                                          refine hK _ _ ?_
                                          clear hK K
                                          refine wpAnyIn_done (by kernel_rfl) ?_ _
                                          gi_wp2
                                          exact hfin.out b9 w6.drew W3 A3 c3 _ ((((Below.refl _ _).drew.trans b5).trans (b6.mono b5.size)).drew) (fun j o hj ho => hI6.out.own.rowCells j o hj ho) g3 hX.out.2 hI6.out.bs hI6.out.bn (hI6.out.own.rowNe hI6.out.bs (by decide)) (hI6.out.own.rowNe hI6.out.bn (by decide))
                                        exact AllReadyIn.nil
                                      exact AllReadyIn.nil
                                    exact AllReadyIn.nil
                                  exact AllReadyIn.nil
                                exact AllReadyIn.nil
                              refine AllReadyIn.cons rfl (fun K hK => ?_) ?_
                              · have hK' := hK; clear hK; have hK := hK'; clear hK'
                                go_simp
                                refine hK _ _ ?_
                                clear hK K
                                refine wpAnyIn_take (i := 3) (v := ?_) rfl rfl (by kernel_rfl) (by kernel_rfl) (by kernel_rfl) (fun _ _ _ h => h) ⟨Or.inl ⟨by rfl, by intro w; go_simp; first | done | with_reducible rfl⟩, fun _ => rfl⟩ ?_
                                simp only [List.getElem_toArray, List.getElem_cons_succ, List.getElem_cons_zero, Act.put, List.setIfInBounds_toArray, List.set_cons_zero, List.set_cons_succ]
                                refine wpAnyIn_take (i := 4) (v := ?_) rfl rfl (by kernel_rfl) (by kernel_rfl) (by kernel_rfl) (fun _ _ _ h => h) ⟨Or.inl ⟨by rfl, by intro w; go_simp; first | done | with_reducible rfl⟩, fun _ => rfl⟩ ?_
                                simp only [List.getElem_toArray, List.getElem_cons_succ, List.getElem_cons_zero, Act.put, List.setIfInBounds_toArray, List.set_cons_zero, List.set_cons_succ]
                                refine wpAnyIn_ready (rs := [0, 5]) (by kernel_rfl) (by simp) ?_
                                refine AllReadyIn.cons rfl (fun K hK => ?_) ?_
                                · have hK' := hK; clear hK; have hK := hK'; clear hK'
                                  go_simp
                                  refine hK _ _ ?_
                                  clear hK K
                                  refine wpAnyIn_ready (rs := [5]) (by kernel_rfl) (by simp) ?_
                                  refine AllReadyIn.cons rfl (fun K hK => ?_) ?_
                                  · have hK' := hK; clear hK; have hK := hK'; clear hK'
                                    go_simp
                                    refine hK _ _ ?_
                                    clear hK K
                                    refine wpAnyIn_ready (rs := [6]) (by kernel_rfl) (by simp) ?_
                                    refine AllReadyIn.cons rfl (fun K hK => ?_) ?_
                                    · have hK' := hK; clear hK; have hK := hK'; clear hK'
                                      go_simp
                                      refine hK _ _ ?_
                                      clear hK K
                                      refine wpAnyIn_ready (rs := [7]) (by kernel_rfl) (by simp) ?_
                                      refine AllReadyIn.cons rfl (fun K hK => ?_) ?_
                                      · have hK' := hK; clear hK; have hK := hK'; clear hK'
                                        obtain ⟨A3, c3, W3, hrun, o3, g3⟩ := OwnE.push2 (W := w6.drew) (hI6.out.keep (Below.refl _ _).drew).own (by have := hI6.out.small; omega) (x0, x1, x2) 1
                                        go_simp
                                        have hrun' := (show (appSem #[25, 25] 25 #[.slice A1 n1 c1, .slice (some ⟨w6.heap.size, 0, none⟩) 1 1]).run Tryd.prog ((w6.alloc (.cells #[.int .i64 x0, .int .i64 x1, .int .i64 x2] 56)).drew) = _ from hrun)
                                        rw [hrun']
                                        go_simp
                                        have hX := Lib.hid ((hI6.out.keep (Below.refl _ _).drew).pushed o3 g3 hn1 hb9w hbq0)
                                        have x9 := hX.out.1.cell
                                        have y9 := hX.out.1.frozen
                                        refine hK _ _ ?_
                                        clear hK K
                                        refine wpAnyIn_ready (rs := [8]) (by kernel_rfl) (by simp) ?_
                                        refine AllReadyIn.cons rfl (fun K hK => ?_) ?_
                                        · have hK' := hK; clear hK; have hK := hK'; clear hK'
                                          go_simp
                                          refine hK _ _ ?_
                                          clear hK K
                                          refine wpAnyIn_done (by kernel_rfl) ?_ _
                                          gi_wp2
                                          exact hfin.out b9 w6.drew W3 A3 c3 _ ((((Below.refl _ _).drew.trans b5).trans (b6.mono b5.size)).drew) (fun j o hj ho => hI6.out.own.rowCells j o hj ho) g3 hX.out.2 hI6.out.bs hI6.out.bn (hI6.out.own.rowNe hI6.out.bs (by decide)) (hI6.out.own.rowNe hI6.out.bn (by decide))
                                        exact AllReadyIn.nil
                                      exact AllReadyIn.nil
                                    exact AllReadyIn.nil
                                  exact AllReadyIn.nil
                                refine AllReadyIn.cons rfl (fun K hK => ?_) ?_
                                · have hK' := hK; clear hK; have hK := hK'; clear hK'
                                  go_simp
                                  refine hK _ _ ?_
                                  clear hK K
                                  refine wpAnyIn_ready (rs := [0, 6]) (by kernel_rfl) (by simp) ?_
                                  refine AllReadyIn.cons rfl (fun K hK => ?_) ?_
                                  · have hK' := hK; clear hK; have hK := hK'; clear hK'
                                    go_simp
                                    refine hK _ _ ?_
                                    clear hK K
                                    refine wpAnyIn_ready (rs := [6]) (by kernel_rfl) (by simp) ?_
                                    refine AllReadyIn.cons rfl (fun K hK => ?_) ?_
                                    · have hK' := hK; clear hK; have hK := hK'; clear hK'
                                      go_simp
                                      refine hK _ _ ?_
                                      clear hK K
                                      refine wpAnyIn_ready (rs := [7]) (by kernel_rfl) (by simp) ?_
                                      refine AllReadyIn.cons rfl (fun K hK => ?_) ?_
                                      · have hK' := hK; clear hK; have hK := hK'; clear hK'
                                        obtain ⟨A3, c3, W3, hrun, o3, g3⟩ := OwnE.push2 (W := w6.drew) (hI6.out.keep (Below.refl _ _).drew).own (by have := hI6.out.small; omega) (x0, x1, x2) 1
                                        go_simp
                                        have hrun' := (show (appSem #[25, 25] 25 #[.slice A1 n1 c1, .slice (some ⟨w6.heap.size, 0, none⟩) 1 1]).run Tryd.prog ((w6.alloc (.cells #[.int .i64 x0, .int .i64 x1, .int .i64 x2] 56)).drew) = _ from hrun)
                                        rw [hrun']
                                        go_simp
                                        have hX := Lib.hid ((hI6.out.keep (Below.refl _ _).drew).pushed o3 g3 hn1 hb9w hbq0)
                                        have x9 := hX.out.1.cell
                                        have y9 := hX.out.1.frozen
                                        refine hK _ _ ?_
                                        clear hK K
                                        refine wpAnyIn_ready (rs := [8]) (by kernel_rfl) (by simp) ?_
                                        refine AllReadyIn.cons rfl (fun K hK => ?_) ?_
                                        · have hK' := hK; clear hK; have hK := hK'; clear hK'
                                          go_simp
                                          refine hK _ _ ?_
                                          clear hK K
                                          refine wpAnyIn_done (by kernel_rfl) ?_ _
                                          gi_wp2
                                          exact hfin.out b9 w6.drew W3 A3 c3 _ ((((Below.refl _ _).drew.trans b5).trans (b6.mono b5.size)).drew) (fun j o hj ho => hI6.out.own.rowCells j o hj ho) g3 hX.out.2 hI6.out.bs hI6.out.bn (hI6.out.own.rowNe hI6.out.bs (by decide)) (hI6.out.own.rowNe hI6.out.bn (by decide))
                                        exact AllReadyIn.nil
                                      exact AllReadyIn.nil
                                    exact AllReadyIn.nil
                                  refine AllReadyIn.cons rfl (fun K hK => ?_) ?_
                                  · have hK' := hK; clear hK; have hK := hK'; clear hK'
                                    go_simp
                                    refine hK _ _ ?_
                                    clear hK K
                                    refine wpAnyIn_ready (rs := [0]) (by kernel_rfl) (by simp) ?_
                                    refine AllReadyIn.cons rfl (fun K hK => ?_) ?_
                                    · have hK' := hK; clear hK; have hK := hK'; clear hK'
                                      go_simp
                                      refine hK _ _ ?_
                                      clear hK K
                                      refine wpAnyIn_ready (rs := [7]) (by kernel_rfl) (by simp) ?_
                                      refine AllReadyIn.cons rfl (fun K hK => ?_) ?_
                                      · have hK' := hK; clear hK; have hK := hK'; clear hK'
                                        obtain ⟨A3, c3, W3, hrun, o3, g3⟩ := OwnE.push2 (W := w6.drew) (hI6.out.keep (Below.refl _ _).drew).own (by have := hI6.out.small; omega) (x0, x1, x2) 1
                                        go_simp
                                        have hrun' := (show (appSem #[25, 25] 25 #[.slice A1 n1 c1, .slice (some ⟨w6.heap.size, 0, none⟩) 1 1]).run Tryd.prog ((w6.alloc (.cells #[.int .i64 x0, .int .i64 x1, .int .i64 x2] 56)).drew) = _ from hrun)
                                        rw [hrun']
                                        go_simp
                                        have hX := Lib.hid ((hI6.out.keep (Below.refl _ _).drew).pushed o3 g3 hn1 hb9w hbq0)
                                        have x9 := hX.out.1.cell
                                        have y9 := hX.out.1.frozen
                                        refine hK _ _ ?_
                                        clear hK K
                                        refine wpAnyIn_ready (rs := [8]) (by kernel_rfl) (by simp) ?_
                                        refine AllReadyIn.cons rfl (fun K hK => ?_) ?_
                                        · have hK' := hK; clear hK; have hK := hK'; clear hK'
                                          go_simp
                                          refine hK _ _ ?_
                                          clear hK K
                                          refine wpAnyIn_done (by kernel_rfl) ?_ _
                                          gi_wp2
                                          exact hfin.out b9 w6.drew W3 A3 c3 _ ((((Below.refl _ _).drew.trans b5).trans (b6.mono b5.size)).drew) (fun j o hj ho => hI6.out.own.rowCells j o hj ho) g3 hX.out.2 hI6.out.bs hI6.out.bn (hI6.out.own.rowNe hI6.out.bs (by decide)) (hI6.out.own.rowNe hI6.out.bn (by decide))
                                        exact AllReadyIn.nil
                                      exact AllReadyIn.nil
                                    exact AllReadyIn.nil
                                  exact AllReadyIn.nil
                                exact AllReadyIn.nil
                              exact AllReadyIn.nil
                            exact AllReadyIn.nil
                          exact AllReadyIn.nil
                        exact AllReadyIn.nil
                      exact AllReadyIn.nil
                    exact AllReadyIn.nil
                  refine AllReadyIn.cons rfl (fun K hK => ?_) ?_
                  · have hK' := hK; clear hK; have hK := hK'; clear hK'
                    go_simp
                    refine hK _ _ ?_
                    clear hK K
                    refine wpAnyIn_take (i := 10) (v := ?_) rfl rfl (by kernel_rfl) (by kernel_rfl) (by kernel_rfl) (fun _ _ _ h => h) ⟨Or.inl ⟨by rfl, by intro w; go_simp; first | done | with_reducible rfl⟩, fun _ => rfl⟩ ?_
                    simp only [List.getElem_toArray, List.getElem_cons_succ, List.getElem_cons_zero, Act.put, List.setIfInBounds_toArray, List.set_cons_zero, List.set_cons_succ]
                    refine wpAnyIn_ready (rs := [8]) (by kernel_rfl) (by simp) ?_
                    refine AllReadyIn.cons rfl (fun K hK => ?_) ?_
                    · have hK' := hK; clear hK; have hK := hK'; clear hK'
                      go_simp
                      gi_wp2_with (refine ⟨trivial, ?_⟩; gi_at_call 26; refine (callsIn_wide.2 (begins_any _ _ n c n2 c2 l x.2 _ E1 E2 hn hm)).mono ?_; rintro e w5 ⟨rfl, b5⟩)
                      have hI5 := Lib.hid (hId.out.keep b5)
                      have E1x : ES w5 A n l := SL.keep E1 b5
                      have d3 := hI5.out.box.cell
                      have d9 := hI5.out.ob.cell
                      have g9 := hI5.out.ob.frozen
                      have hbx5 := Nat.lt_of_lt_of_le hbx b5.size
                      have u0 := (b5.cell (p := ⟨bx, o + n * 3, none⟩) hbx).trans v0
                      have u1 := (b5.cell (p := ⟨bx, o + n * 3 + 1, none⟩) hbx).trans v1
                      have u2 := (b5.cell (p := ⟨bx, o + n * 3 + 2, none⟩) hbx).trans v2
                      refine wpAnyIn_take (i := 11) (v := ?_) rfl rfl (by kernel_rfl) (by kernel_rfl) (by kernel_rfl) (fun _ _ _ h => h) ⟨Or.inl ⟨by rfl, by intro w; go_simp; first | done | with_reducible rfl⟩, fun _ => rfl⟩ ?_
                      simp only [List.getElem_toArray, List.getElem_cons_succ, List.getElem_cons_zero, Act.put, List.setIfInBounds_toArray, List.set_cons_zero, List.set_cons_succ]
                      refine wpAnyIn_take (i := 12) (v := ?_) rfl rfl (by kernel_rfl) (by kernel_rfl) (by kernel_rfl) (fun _ _ _ h => h) ⟨Or.inl ⟨by rfl, by intro w; go_simp; first | done | with_reducible rfl⟩, fun _ => rfl⟩ ?_
                      simp only [List.getElem_toArray, List.getElem_cons_succ, List.getElem_cons_zero, Act.put, List.setIfInBounds_toArray, List.set_cons_zero, List.set_cons_succ]
                      refine wpAnyIn_take (i := 13) (v := ?_) rfl rfl (by kernel_rfl) (by kernel_rfl) (by kernel_rfl) (fun _ _ _ h => h) ⟨Or.inl ⟨by rfl, by intro w; go_simp; first | done | with_reducible rfl⟩, fun _ => rfl⟩ ?_
                      simp only [List.getElem_toArray, List.getElem_cons_succ, List.getElem_cons_zero, Act.put, List.setIfInBounds_toArray, List.set_cons_zero, List.set_cons_succ]
                      refine wpAnyIn_take (i := 15) (v := ?_) rfl rfl (by kernel_rfl) (by kernel_rfl) (by kernel_rfl) (fun _ _ _ h => h) ⟨Or.inl ⟨by rfl, by intro w; go_simp; first | done | with_reducible rfl⟩, fun _ => rfl⟩ ?_
                      simp only [List.getElem_toArray, List.getElem_cons_succ, List.getElem_cons_zero, Act.put, List.setIfInBounds_toArray, List.set_cons_zero, List.set_cons_succ]
                      refine wpAnyIn_ready (rs := [14, 16]) (by kernel_rfl) (by simp) ?_
                      refine AllReadyIn.cons rfl (fun K hK => ?_) ?_
                      · have hK' := hK; clear hK; have hK := hK'; clear hK'
                        go_simp
                        refine hK _ _ ?_
                        clear hK K
                        refine wpAnyIn_ready (rs := [16]) (by kernel_rfl) (by simp) ?_
                        refine AllReadyIn.cons rfl (fun K hK => ?_) ?_
                        · have hK' := hK; clear hK; have hK := hK'; clear hK'
                          go_simp
                          refine hK _ _ ?_
                          clear hK K
                          refine wpAnyIn_take (i := 17) (v := ?_) rfl rfl (by kernel_rfl) (by kernel_rfl) (by kernel_rfl) (fun _ _ _ h => h) ⟨Or.inl ⟨by rfl, by intro w; go_simp; first | done | with_reducible rfl⟩, fun _ => rfl⟩ ?_
                          simp only [List.getElem_toArray, List.getElem_cons_succ, List.getElem_cons_zero, Act.put, List.setIfInBounds_toArray, List.set_cons_zero, List.set_cons_succ]
                          refine wpAnyIn_take (i := 18) (v := ?_) rfl rfl (by kernel_rfl) (by kernel_rfl) (by kernel_rfl) (fun _ _ _ h => h) ⟨Or.inl ⟨by rfl, by intro w; go_simp; first | done | with_reducible rfl⟩, fun _ => rfl⟩ ?_
                          simp only [List.getElem_toArray, List.getElem_cons_succ, List.getElem_cons_zero, Act.put, List.setIfInBounds_toArray, List.set_cons_zero, List.set_cons_succ]
                          refine wpAnyIn_ready (rs := [19]) (by kernel_rfl) (by simp) ?_
                          refine AllReadyIn.cons rfl (fun K hK => ?_) ?_
                          · have hK' := hK; clear hK; have hK := hK'; clear hK'
                            go_simp
                            refine hK _ _ ?_
                            clear hK K
                            refine wpAnyIn_ready (rs := [20]) (by kernel_rfl) (by simp) ?_
                            refine AllReadyIn.cons rfl (fun K hK => ?_) ?_
                            · have hK' := hK; clear hK; have hK := hK'; clear hK'
                              go_simp
                              gi_wp2_with (refine ⟨trivial, ?_⟩; gi_at_call 27; refine (callsIn_wide.2 (contains_any A1 n1 c1 (candF l pre) (x0, x1, x2) _ hI5.out.own.es (by have := hI5.out.small; omega))).mono ?_; rintro e w6 ⟨rfl, b6⟩; rw [hin])
                              have hI6 := Lib.hid (hI5.out.keep b6)
                              have m3 := hI6.out.box.cell
                              have m9 := hI6.out.ob.cell
                              have n9 := hI6.out.ob.frozen
                              have l9 := hI6.out.ob.lt
                              have l3 := hI6.out.box.lt
                              have t0 := (b6.cell (p := ⟨bx, o + n * 3, none⟩) hbx5).trans u0
                              have t1 := (b6.cell (p := ⟨bx, o + n * 3 + 1, none⟩) hbx5).trans u1
                              have t2 := (b6.cell (p := ⟨bx, o + n * 3 + 2, none⟩) hbx5).trans u2
                              refine wpAnyIn_take (i := 21) (v := ?_) rfl rfl (by kernel_rfl) (by kernel_rfl) (by kernel_rfl) (fun _ _ _ h => h) ⟨Or.inl ⟨by rfl, by intro w; go_simp; first | done | with_reducible rfl⟩, fun _ => rfl⟩ ?_
                              simp only [List.getElem_toArray, List.getElem_cons_succ, List.getElem_cons_zero, Act.put, List.setIfInBounds_toArray, List.set_cons_zero, List.set_cons_succ]
                              refine wpAnyIn_take (i := 22) (v := ?_) rfl rfl (by kernel_rfl) (by kernel_rfl) (by kernel_rfl) (fun _ _ _ h => h) ⟨Or.inl ⟨by rfl, by intro w; go_simp; first | done | with_reducible rfl⟩, fun _ => rfl⟩ ?_
                              simp only [List.getElem_toArray, List.getElem_cons_succ, List.getElem_cons_zero, Act.put, List.setIfInBounds_toArray, List.set_cons_zero, List.set_cons_succ]
                              refine wpAnyIn_done (by kernel_rfl) ?_ _
                              gi_wp2
                              refine wpIn_region_any (by kernel_rfl) ?_
                              try (change wpAnyIn _ _ _ _ _ _ _ _ _ (World.drew _))
                              refine wpAnyIn_round (l := l') rfl (by intro i o hi c; revert hi; exact noDefer_spec (by kernel_rfl) i o c) _ _ _ _ ?_
                              refine wpAnyIn_take (i := 1) (v := ?_) rfl rfl (by kernel_rfl) (by kernel_rfl) (by kernel_rfl) (fun _ _ _ h => h) ⟨Or.inl ⟨by rfl, by intro w; go_simp; first | done | with_reducible rfl⟩, fun _ => rfl⟩ ?_
                              simp only [List.getElem_toArray, List.getElem_cons_succ, List.getElem_cons_zero, Act.put, List.setIfInBounds_toArray, List.set_cons_zero, List.set_cons_succ]
                              refine wpAnyIn_ready (rs := [0, 2]) (by kernel_rfl) (by simp) ?_
                              refine AllReadyIn.cons rfl (fun K hK => ?_) ?_
                              · have hK' := hK; clear hK; have hK := hK'; clear hK'
                                go_simp
                                refine hK _ _ ?_
                                clear hK K
                                refine wpAnyIn_ready (rs := [2]) (by kernel_rfl) (by simp) ?_
                                refine AllReadyIn.cons rfl (fun K hK => ?_) ?_
                                · have hK' := hK; clear hK; have hK := hK'; clear hK'
                                  go_simp
                                  refine hK _ _ ?_
                                  clear hK K
                                  refine wpAnyIn_take (i := 3) (v := ?_) rfl rfl (by kernel_rfl) (by kernel_rfl) (by kernel_rfl) (fun _ _ _ h => h) ⟨Or.inl ⟨by rfl, by intro w; go_simp; first | done | with_reducible rfl⟩, fun _ => rfl⟩ ?_
                                  simp only [List.getElem_toArray, List.getElem_cons_succ, List.getElem_cons_zero, Act.put, List.setIfInBounds_toArray, List.set_cons_zero, List.set_cons_succ]
                                  refine wpAnyIn_take (i := 4) (v := ?_) rfl rfl (by kernel_rfl) (by kernel_rfl) (by kernel_rfl) (fun _ _ _ h => h) ⟨Or.inl ⟨by rfl, by intro w; go_simp; first | done | with_reducible rfl⟩, fun _ => rfl⟩ ?_
                                  simp only [List.getElem_toArray, List.getElem_cons_succ, List.getElem_cons_zero, Act.put, List.setIfInBounds_toArray, List.set_cons_zero, List.set_cons_succ]
                                  refine wpAnyIn_ready (rs := [5]) (by kernel_rfl) (by simp) ?_
                                  refine AllReadyIn.cons rfl (fun K hK => ?_) ?_
                                  · have hK' := hK; clear hK; have hK := hK'; clear hK'
                                    go_simp
                                    refine hK _ _ ?_
                                    clear hK K
                                    refine wpAnyIn_ready (rs := [6]) (by kernel_rfl) (by simp) ?_
                                    refine AllReadyIn.cons rfl (fun K hK => ?_) ?_
                                    · have hK' := hK; clear hK; have hK := hK'; clear hK'
                                      go_simp
                                      refine hK _ _ ?_
                                      clear hK K
                                      refine wpAnyIn_ready (rs := [7]) (by kernel_rfl) (by simp) ?_
                                      refine AllReadyIn.cons rfl (fun K hK => ?_) ?_
                                      · have hK' := hK; clear hK; have hK := hK'; clear hK'
                                        obtain ⟨A3, c3, W3, hrun, o3, g3⟩ := OwnE.push2 (W := w6.drew) (hI6.out.keep (Below.refl _ _).drew).own (by have := hI6.out.small; omega) (x0, x1, x2) 1
                                        go_simp
                                        have hrun' := (show (appSem #[25, 25] 25 #[.slice A1 n1 c1, .slice (some ⟨w6.heap.size, 0, none⟩) 1 1]).run Tryd.prog ((w6.alloc (.cells #[.int .i64 x0, .int .i64 x1, .int .i64 x2] 56)).drew) = _ from hrun)
                                        rw [hrun']
                                        go_simp
                                        have hX := Lib.hid ((hI6.out.keep (Below.refl _ _).drew).pushed o3 g3 hn1 hb9w hbq0)
                                        have x9 := hX.out.1.cell
                                        have y9 := hX.out.1.frozen
                                        refine hK _ _ ?_
                                        clear hK K
                                        refine wpAnyIn_ready (rs := [8]) (by kernel_rfl) (by simp) ?_
                                        refine AllReadyIn.cons rfl (fun K hK => ?_) ?_
                                        · have hK' := hK; clear hK; have hK := hK'; clear hK'
                                          go_simp
                                          refine hK _ _ ?_
                                          clear hK K
                                          refine wpAnyIn_done (by kernel_rfl) ?_ _
                                          gi_wp2
                                          exact hfin.out b9 w6.drew W3 A3 c3 _ ((((Below.refl _ _).drew.trans b5).trans (b6.mono b5.size)).drew) (fun j o hj ho => hI6.out.own.rowCells j o hj ho) g3 hX.out.2 hI6.out.bs hI6.out.bn (hI6.out.own.rowNe hI6.out.bs (by decide)) (hI6.out.own.rowNe hI6.out.bn (by decide))
                                        exact AllReadyIn.nil
                                      exact AllReadyIn.nil
                                    exact AllReadyIn.nil
                                  exact AllReadyIn.nil
                                exact AllReadyIn.nil
                              refine AllReadyIn.cons rfl (fun K hK => ?_) ?_
                              · have hK' := hK; clear hK; have hK := hK'; clear hK'
                                go_simp
                                refine hK _ _ ?_
                                clear hK K
                                refine wpAnyIn_take (i := 3) (v := ?_) rfl rfl (by kernel_rfl) (by kernel_rfl) (by kernel_rfl) (fun _ _ _ h => h) ⟨Or.inl ⟨by rfl, by intro w; go_simp; first | done | with_reducible rfl⟩, fun _ => rfl⟩ ?_
                                simp only [List.getElem_toArray, List.getElem_cons_succ, List.getElem_cons_zero, Act.put, List.setIfInBounds_toArray, List.set_cons_zero, List.set_cons_succ]
                                refine wpAnyIn_take (i := 4) (v := ?_) rfl rfl (by kernel_rfl) (by kernel_rfl) (by kernel_rfl) (fun _ _ _ h => h) ⟨Or.inl ⟨by rfl, by intro w; go_simp; first | done | with_reducible rfl⟩, fun _ => rfl⟩ ?_
                                simp only [List.getElem_toArray, List.getElem_cons_succ, List.getElem_cons_zero, Act.put, List.setIfInBounds_toArray, List.set_cons_zero, List.set_cons_succ]
                                refine wpAnyIn_ready (rs := [0, 5]) (by kernel_rfl) (by simp) ?_
                                refine AllReadyIn.cons rfl (fun K hK => ?_) ?_
                                · have hK' := hK; clear hK; have hK := hK'; clear hK'
                                  go_simp
                                  refine hK _ _ ?_
                                  clear hK K
                                  refine wpAnyIn_ready (rs := [5]) (by kernel_rfl) (by simp) ?_
                                  refine AllReadyIn.cons rfl (fun K hK => ?_) ?_
                                  · have hK' := hK; clear hK; have hK := hK'; clear hK'
                                    go_simp
                                    refine hK _ _ ?_
                                    clear hK K
                                    refine wpAnyIn_ready (rs := [6]) (by kernel_rfl) (by simp) ?_
                                    refine AllReadyIn.cons rfl (fun K hK => ?_) ?_
                                    · have hK' := hK; clear hK; have hK := hK'; clear hK'
                                      go_simp
                                      refine hK _ _ ?_
                                      clear hK K
                                      refine wpAnyIn_ready (rs := [7]) (by kernel_rfl) (by simp) ?_
                                      refine AllReadyIn.cons rfl (fun K hK => ?_) ?_
                                      · have hK' := hK; clear hK; have hK := hK'; clear hK'
                                        obtain ⟨A3, c3, W3, hrun, o3, g3⟩ := OwnE.push2 (W := w6.drew) (hI6.out.keep (Below.refl _ _).drew).own (by have := hI6.out.small; omega) (x0, x1, x2) 1
                                        go_simp
                                        have hrun' := (show (appSem #[25, 25] 25 #[.slice A1 n1 c1, .slice (some ⟨w6.heap.size, 0, none⟩) 1 1]).run Tryd.prog ((w6.alloc (.cells #[.int .i64 x0, .int .i64 x1, .int .i64 x2] 56)).drew) = _ from hrun)
                                        rw [hrun']
                                        go_simp
                                        have hX := Lib.hid ((hI6.out.keep (Below.refl _ _).drew).pushed o3 g3 hn1 hb9w hbq0)
                                        have x9 := hX.out.1.cell
                                        have y9 := hX.out.1.frozen
                                        refine hK _ _ ?_
                                        clear hK K
                                        refine wpAnyIn_ready (rs := [8]) (by kernel_rfl) (by simp) ?_
                                        refine AllReadyIn.cons rfl (fun K hK => ?_) ?_
                                        · have hK' := hK; clear hK; have hK := hK'; clear hK'
                                          go_simp
                                          refine hK _ _ ?_
                                          clear hK K
                                          refine wpAnyIn_done (by kernel_rfl) ?_ _
                                          gi_wp2
                                          exact hfin.out b9 w6.drew W3 A3 c3 _ ((((Below.refl _ _).drew.trans b5).trans (b6.mono b5.size)).drew) (fun j o hj ho => hI6.out.own.rowCells j o hj ho) g3 hX.out.2 hI6.out.bs hI6.out.bn (hI6.out.own.rowNe hI6.out.bs (by decide)) (hI6.out.own.rowNe hI6.out.bn (by decide))
                                        exact AllReadyIn.nil
                                      exact AllReadyIn.nil
                                    exact AllReadyIn.nil
                                  exact AllReadyIn.nil
                                refine AllReadyIn.cons rfl (fun K hK => ?_) ?_
                                · have hK' := hK; clear hK; have hK := hK'; clear hK'
                                  go_simp
                                  refine hK _ _ ?_
                                  clear hK K
                                  refine wpAnyIn_ready (rs := [0, 6]) (by kernel_rfl) (by simp) ?_
                                  refine AllReadyIn.cons rfl (fun K hK => ?_) ?_
                                  · have hK' := hK; clear hK; have hK := hK'; clear hK'
                                    go_simp
                                    refine hK _ _ ?_
                                    clear hK K
                                    refine wpAnyIn_ready (rs := [6]) (by kernel_rfl) (by simp) ?_
                                    refine AllReadyIn.cons rfl (fun K hK => ?_) ?_
                                    · have hK' := hK; clear hK; have hK := hK'; clear hK'
                                      go_simp
                                      refine hK _ _ ?_
                                      clear hK K
                                      refine wpAnyIn_ready (rs := [7]) (by kernel_rfl) (by simp) ?_
                                      refine AllReadyIn.cons rfl (fun K hK => ?_) ?_
                                      · have hK' := hK; clear hK; have hK := hK'; clear hK'
                                        obtain ⟨A3, c3, W3, hrun, o3, g3⟩ := OwnE.push2 (W := w6.drew) (hI6.out.keep (Below.refl _ _).drew).own (by have := hI6.out.small; omega) (x0, x1, x2) 1
                                        go_simp
                                        have hrun' := (show (appSem #[25, 25] 25 #[.slice A1 n1 c1, .slice (some ⟨w6.heap.size, 0, none⟩) 1 1]).run Tryd.prog ((w6.alloc (.cells #[.int .i64 x0, .int .i64 x1, .int .i64 x2] 56)).drew) = _ from hrun)
                                        rw [hrun']
                                        go_simp
                                        have hX := Lib.hid ((hI6.out.keep (Below.refl _ _).drew).pushed o3 g3 hn1 hb9w hbq0)
                                        have x9 := hX.out.1.cell
                                        have y9 := hX.out.1.frozen
                                        refine hK _ _ ?_
                                        clear hK K
                                        refine wpAnyIn_ready (rs := [8]) (by kernel_rfl) (by simp) ?_
                                        refine AllReadyIn.cons rfl (fun K hK => ?_) ?_
                                        · have hK' := hK; clear hK; have hK := hK'; clear hK'
                                          go_simp
                                          refine hK _ _ ?_
                                          clear hK K
                                          refine wpAnyIn_done (by kernel_rfl) ?_ _
                                          gi_wp2
                                          exact hfin.out b9 w6.drew W3 A3 c3 _ ((((Below.refl _ _).drew.trans b5).trans (b6.mono b5.size)).drew) (fun j o hj ho => hI6.out.own.rowCells j o hj ho) g3 hX.out.2 hI6.out.bs hI6.out.bn (hI6.out.own.rowNe hI6.out.bs (by decide)) (hI6.out.own.rowNe hI6.out.bn (by decide))
                                        exact AllReadyIn.nil
                                      exact AllReadyIn.nil
                                    exact AllReadyIn.nil
                                  refine AllReadyIn.cons rfl (fun K hK => ?_) ?_
                                  · have hK' := hK; clear hK; have hK := hK'; clear hK'
                                    go_simp
                                    refine hK _ _ ?_
                                    clear hK K
                                    refine wpAnyIn_ready (rs := [0]) (by kernel_rfl) (by simp) ?_
                                    refine AllReadyIn.cons rfl (fun K hK => ?_) ?_
                                    · have hK' := hK; clear hK; have hK := hK'; clear hK'
                                      go_simp
                                      refine hK _ _ ?_
                                      clear hK K
                                      refine wpAnyIn_ready (rs := [7]) (by kernel_rfl) (by simp) ?_
                                      refine AllReadyIn.cons rfl (fun K hK => ?_) ?_
                                      · have hK' := hK; clear hK; have hK := hK'; clear hK'
                                        obtain ⟨A3, c3, W3, hrun, o3, g3⟩ := OwnE.push2 (W := w6.drew) (hI6.out.keep (Below.refl _ _).drew).own (by have := hI6.out.small; omega) (x0, x1, x2) 1
                                        go_simp
                                        have hrun' := (show (appSem #[25, 25] 25 #[.slice A1 n1 c1, .slice (some ⟨w6.heap.size, 0, none⟩) 1 1]).run Tryd.prog ((w6.alloc (.cells #[.int .i64 x0, .int .i64 x1, .int .i64 x2] 56)).drew) = _ from hrun)
                                        rw [hrun']
                                        go_simp
                                        have hX := Lib.hid ((hI6.out.keep (Below.refl _ _).drew).pushed o3 g3 hn1 hb9w hbq0)
                                        have x9 := hX.out.1.cell
                                        have y9 := hX.out.1.frozen
                                        refine hK _ _ ?_
                                        clear hK K
                                        refine wpAnyIn_ready (rs := [8]) (by kernel_rfl) (by simp) ?_
                                        refine AllReadyIn.cons rfl (fun K hK => ?_) ?_
                                        · have hK' := hK; clear hK; have hK := hK'; clear hK'
                                          go_simp
                                          refine hK _ _ ?_
                                          clear hK K
                                          refine wpAnyIn_done (by kernel_rfl) ?_ _
                                          gi_wp2
                                          exact hfin.out b9 w6.drew W3 A3 c3 _ ((((Below.refl _ _).drew.trans b5).trans (b6.mono b5.size)).drew) (fun j o hj ho => hI6.out.own.rowCells j o hj ho) g3 hX.out.2 hI6.out.bs hI6.out.bn (hI6.out.own.rowNe hI6.out.bs (by decide)) (hI6.out.own.rowNe hI6.out.bn (by decide))
                                        exact AllReadyIn.nil
                                      exact AllReadyIn.nil
                                    exact AllReadyIn.nil
                                  exact AllReadyIn.nil
                                exact AllReadyIn.nil
                              exact AllReadyIn.nil
                            exact AllReadyIn.nil
                          exact AllReadyIn.nil
                        exact AllReadyIn.nil
                      refine AllReadyIn.cons rfl (fun K hK => ?_) ?_
                      · have hK' := hK; clear hK; have hK := hK'; clear hK'
                        go_simp
                        refine hK _ _ ?_
                        clear hK K
                        refine wpAnyIn_take (i := 17) (v := ?_) rfl rfl (by kernel_rfl) (by kernel_rfl) (by kernel_rfl) (fun _ _ _ h => h) ⟨Or.inl ⟨by rfl, by intro w; go_simp; first | done | with_reducible rfl⟩, fun _ => rfl⟩ ?_
                        simp only [List.getElem_toArray, List.getElem_cons_succ, List.getElem_cons_zero, Act.put, List.setIfInBounds_toArray, List.set_cons_zero, List.set_cons_succ]
                        refine wpAnyIn_take (i := 18) (v := ?_) rfl rfl (by kernel_rfl) (by kernel_rfl) (by kernel_rfl) (fun _ _ _ h => h) ⟨Or.inl ⟨by rfl, by intro w; go_simp; first | done | with_reducible rfl⟩, fun _ => rfl⟩ ?_
                        simp only [List.getElem_toArray, List.getElem_cons_succ, List.getElem_cons_zero, Act.put, List.setIfInBounds_toArray, List.set_cons_zero, List.set_cons_succ]
                        refine wpAnyIn_ready (rs := [14, 19]) (by kernel_rfl) (by simp) ?_
                        refine AllReadyIn.cons rfl (fun K hK => ?_) ?_
                        · have hK' := hK; clear hK; have hK := hK'; clear hK'
                          go_simp
                          refine hK _ _ ?_
                          clear hK K
                          refine wpAnyIn_ready (rs := [19]) (by kernel_rfl) (by simp) ?_
                          refine AllReadyIn.cons rfl (fun K hK => ?_) ?_
                          · have hK' := hK; clear hK; have hK := hK'; clear hK'
                            go_simp
                            refine hK _ _ ?_
                            clear hK K
                            refine wpAnyIn_ready (rs := [20]) (by kernel_rfl) (by simp) ?_
                            refine AllReadyIn.cons rfl (fun K hK => ?_) ?_
                            · have hK' := hK; clear hK; have hK := hK'; clear hK'
                              go_simp
                              gi_wp2_with (refine ⟨trivial, ?_⟩; gi_at_call 27; refine (callsIn_wide.2 (contains_any A1 n1 c1 (candF l pre) (x0, x1, x2) _ hI5.out.own.es (by have := hI5.out.small; omega))).mono ?_; rintro e w6 ⟨rfl, b6⟩; rw [hin])
                              have hI6 := Lib.hid (hI5.out.keep b6)
                              have m3 := hI6.out.box.cell
                              have m9 := hI6.out.ob.cell
                              have n9 := hI6.out.ob.frozen
                              have l9 := hI6.out.ob.lt
                              have l3 := hI6.out.box.lt
                              have t0 := (b6.cell (p := ⟨bx, o + n * 3, none⟩) hbx5).trans u0
                              have t1 := (b6.cell (p := ⟨bx, o + n * 3 + 1, none⟩) hbx5).trans u1
                              have t2 := (b6.cell (p := ⟨bx, o + n * 3 + 2, none⟩) hbx5).trans u2
                              refine wpAnyIn_take (i := 21) (v := ?_) rfl rfl (by kernel_rfl) (by kernel_rfl) (by kernel_rfl) (fun _ _ _ h => h) ⟨Or.inl ⟨by rfl, by intro w; go_simp; first | done | with_reducible rfl⟩, fun _ => rfl⟩ ?_
                              simp only [List.getElem_toArray, List.getElem_cons_succ, List.getElem_cons_zero, Act.put, List.setIfInBounds_toArray, List.set_cons_zero, List.set_cons_succ]
                              refine wpAnyIn_take (i := 22) (v := ?_) rfl rfl (by kernel_rfl) (by kernel_rfl) (by kernel_rfl) (fun _ _ _ h => h) ⟨Or.inl ⟨by rfl, by intro w; go_simp; first | done | with_reducible rfl⟩, fun _ => rfl⟩ ?_
                              simp only [List.getElem_toArray, List.getElem_cons_succ, List.getElem_cons_zero, Act.put, List.setIfInBounds_toArray, List.set_cons_zero, List.set_cons_succ]
                              refine wpAnyIn_done (by kernel_rfl) ?_ _
                              gi_wp2
                              refine wpIn_region_any (by kernel_rfl) ?_
                              try (change wpAnyIn _ _ _ _ _ _ _ _ _ (World.drew _))
                              refine wpAnyIn_round (l := l') rfl (by intro i o hi c; revert hi; exact noDefer_spec (by kernel_rfl) i o c) _ _ _ _ ?_
                              refine wpAnyIn_take (i := 1) (v := ?_) rfl rfl (by kernel_rfl) (by kernel_rfl) (by kernel_rfl) (fun _ _ _ h => h) ⟨Or.inl ⟨by rfl, by intro w; go_simp; first | done | with_reducible rfl⟩, fun _ => rfl⟩ ?_
                              simp only [List.getElem_toArray, List.getElem_cons_succ, List.getElem_cons_zero, Act.put, List.setIfInBounds_toArray, List.set_cons_zero, List.set_cons_succ]
                              refine wpAnyIn_ready (rs := [0, 2]) (by kernel_rfl) (by simp) ?_
                              refine AllReadyIn.cons rfl (fun K hK => ?_) ?_
                              · have hK' := hK; clear hK; have hK := hK'; clear hK'
                                go_simp
                                refine hK _ _ ?_
                                clear hK K
                                refine wpAnyIn_ready (rs := [2]) (by kernel_rfl) (by simp) ?_
                                refine AllReadyIn.cons rfl (fun K hK => ?_) ?_
                                · have hK' := hK; clear hK; have hK := hK'; clear hK'
                                  go_simp
                                  refine hK _ _ ?_
                                  clear hK K
                                  refine wpAnyIn_take (i := 3) (v := ?_) rfl rfl (by kernel_rfl) (by kernel_rfl) (by kernel_rfl) (fun _ _ _ h => h) ⟨Or.inl ⟨by rfl, by intro w; go_simp; first | done | with_reducible rfl⟩, fun _ => rfl⟩ ?_
                                  simp only [List.getElem_toArray, List.getElem_cons_succ, List.getElem_cons_zero, Act.put, List.setIfInBounds_toArray, List.set_cons_zero, List.set_cons_succ]
                                  refine wpAnyIn_take (i := 4) (v := ?_) rfl rfl (by kernel_rfl) (by kernel_rfl) (by kernel_rfl) (fun _ _ _ h => h) ⟨Or.inl ⟨by rfl, by intro w; go_simp; first | done | with_reducible rfl⟩, fun _ => rfl⟩ ?_
                                  simp only [List.getElem_toArray, List.getElem_cons_succ, List.getElem_cons_zero, Act.put, List.setIfInBounds_toArray, List.set_cons_zero, List.set_cons_succ]
                                  refine wpAnyIn_ready (rs := [5]) (by kernel_rfl) (by simp) ?_
                                  refine AllReadyIn.cons rfl (fun K hK => ?_) ?_
                                  · have hK' := hK; clear hK; have hK := hK'; clear hK'
                                    go_simp
                                    refine hK _ _ ?_
                                    clear hK K
                                    refine wpAnyIn_ready (rs := [6]) (by kernel_rfl) (by simp) ?_
                                    refine AllReadyIn.cons rfl (fun K hK => ?_) ?_
                                    · have hK' := hK; clear hK; have hK := hK'; clear hK'
                                      go_simp
                                      refine hK _ _ ?_
                                      clear hK K
                                      refine wpAnyIn_ready (rs := [7]) (by kernel_rfl) (by simp) ?_
                                      refine AllReadyIn.cons rfl (fun K hK => ?_) ?_
                                      · have hK' := hK; clear hK; have hK := hK'; clear hK'
                                        obtain ⟨A3, c3, W3, hrun, o3, g3⟩ := OwnE.push2 (W := w6.drew) (hI6.out.keep (Below.refl _ _).drew).own (by have := hI6.out.small; omega) (x0, x1, x2) 1
                                        go_simp
                                        have hrun' := (show (appSem #[25, 25] 25 #[.slice A1 n1 c1, .slice (some ⟨w6.heap.size, 0, none⟩) 1 1]).run Tryd.prog ((w6.alloc (.cells #[.int .i64 x0, .int .i64 x1, .int .i64 x2] 56)).drew) = _ from hrun)
                                        rw [hrun']
                                        go_simp
                                        have hX := Lib.hid ((hI6.out.keep (Below.refl _ _).drew).pushed o3 g3 hn1 hb9w hbq0)
                                        have x9 := hX.out.1.cell
                                        have y9 := hX.out.1.frozen
                                        refine hK _ _ ?_
                                        clear hK K
                                        refine wpAnyIn_ready (rs := [8]) (by kernel_rfl) (by simp) ?_
                                        refine AllReadyIn.cons rfl (fun K hK => ?_) ?_
                                        · have hK' := hK; clear hK; have hK := hK'; clear hK'
                                          go_simp
                                          refine hK _ _ ?_
                                          clear hK K
                                          refine wpAnyIn_done (by kernel_rfl) ?_ _
                                          gi_wp2
                                          exact hfin.out b9 w6.drew W3 A3 c3 _ ((((Below.refl _ _).drew.trans b5).trans (b6.mono b5.size)).drew) (fun j o hj ho => hI6.out.own.rowCells j o hj ho) g3 hX.out.2 hI6.out.bs hI6.out.bn (hI6.out.own.rowNe hI6.out.bs (by decide)) (hI6.out.own.rowNe hI6.out.bn (by decide))
                                        exact AllReadyIn.nil
                                      exact AllReadyIn.nil
                                    exact AllReadyIn.nil
                                  exact AllReadyIn.nil
                                exact AllReadyIn.nil
                              refine AllReadyIn.cons rfl (fun K hK => ?_) ?_
                              · have hK' := hK; clear hK; have hK := hK'; clear hK'
                                go_simp
                                refine hK _ _ ?_
                                clear hK K
                                refine wpAnyIn_take (i := 3) (v := ?_) rfl rfl (by kernel_rfl) (by kernel_rfl) (by kernel_rfl) (fun _ _ _ h => h) ⟨Or.inl ⟨by rfl, by intro w; go_simp; first | done | with_reducible rfl⟩, fun _ => rfl⟩ ?_
                                simp only [List.getElem_toArray, List.getElem_cons_succ, List.getElem_cons_zero, Act.put, List.setIfInBounds_toArray, List.set_cons_zero, List.set_cons_succ]
                                refine wpAnyIn_take (i := 4) (v := ?_) rfl rfl (by kernel_rfl) (by kernel_rfl) (by kernel_rfl) (fun _ _ _ h => h) ⟨Or.inl ⟨by rfl, by intro w; go_simp; first | done | with_reducible rfl⟩, fun _ => rfl⟩ ?_
                                simp only [List.getElem_toArray, List.getElem_cons_succ, List.getElem_cons_zero, Act.put, List.setIfInBounds_toArray, List.set_cons_zero, List.set_cons_succ]
                                refine wpAnyIn_ready (rs := [0, 5]) (by kernel_rfl) (by simp) ?_
                                refine AllReadyIn.cons rfl (fun K hK => ?_) ?_
                                · have hK' := hK; clear hK; have hK := hK'; clear hK'
                                  go_simp
                                  refine hK _ _ ?_
                                  clear hK K
                                  refine wpAnyIn_ready (rs := [5]) (by kernel_rfl) (by simp) ?_
                                  refine AllReadyIn.cons rfl (fun K hK => ?_) ?_
                                  · have hK' := hK; clear hK; have hK := hK'; clear hK'
                                    go_simp
                                    refine hK _ _ ?_
                                    clear hK K
                                    refine wpAnyIn_ready (rs := [6]) (by kernel_rfl) (by simp) ?_
                                    refine AllReadyIn.cons rfl (fun K hK => ?_) ?_
                                    · have hK' := hK; clear hK; have hK := hK'; clear hK'
                                      go_simp
                                      refine hK _ _ ?_
                                      clear hK K
                                      refine wpAnyIn_ready (rs := [7]) (by kernel_rfl) (by simp) ?_
                                      refine AllReadyIn.cons rfl (fun K hK => ?_) ?_
                                      · have hK' := hK; clear hK; have hK := hK'; clear hK'
                                        obtain ⟨A3, c3, W3, hrun, o3, g3⟩ := OwnE.push2 (W := w6.drew) (hI6.out.keep (Below.refl _ _).drew).own (by have := hI6.out.small; omega) (x0, x1, x2) 1
                                        go_simp
                                        have hrun' := (show (appSem #[25, 25] 25 #[.slice A1 n1 c1, .slice (some ⟨w6.heap.size, 0, none⟩) 1 1]).run Tryd.prog ((w6.alloc (.cells #[.int .i64 x0, .int .i64 x1, .int .i64 x2] 56)).drew) = _ from hrun)
                                        rw [hrun']
                                        go_simp
                                        have hX := Lib.hid ((hI6.out.keep (Below.refl _ _).drew).pushed o3 g3 hn1 hb9w hbq0)
                                        have x9 := hX.out.1.cell
                                        have y9 := hX.out.1.frozen
                                        refine hK _ _ ?_
                                        clear hK K
                                        refine wpAnyIn_ready (rs := [8]) (by kernel_rfl) (by simp) ?_
                                        refine AllReadyIn.cons rfl (fun K hK => ?_) ?_
                                        · have hK' := hK; clear hK; have hK := hK'; clear hK'
                                          go_simp
                                          refine hK _ _ ?_
                                          clear hK K
                                          refine wpAnyIn_done (by kernel_rfl) ?_ _
                                          gi_wp2
                                          exact hfin.out b9 w6.drew W3 A3 c3 _ ((((Below.refl _ _).drew.trans b5).trans (b6.mono b5.size)).drew) (fun j o hj ho => hI6.out.own.rowCells j o hj ho) g3 hX.out.2 hI6.out.bs hI6.out.bn (hI6.out.own.rowNe hI6.out.bs (by decide)) (hI6.out.own.rowNe hI6.out.bn (by decide))
                                        exact AllReadyIn.nil
                                      exact AllReadyIn.nil
                                    exact AllReadyIn.nil
                                  exact AllReadyIn.nil
                                refine AllReadyIn.cons rfl (fun K hK => ?_) ?_
                                · have hK' := hK; clear hK; have hK := hK'; clear hK'
                                  go_simp
                                  refine hK _ _ ?_
                                  clear hK K
                                  refine wpAnyIn_ready (rs := [0, 6]) (by kernel_rfl) (by simp) ?_
                                  refine AllReadyIn.cons rfl (fun K hK => ?_) ?_
                                  · have hK' := hK; clear hK; have hK := hK'; clear hK'
                                    go_simp
                                    refine hK _ _ ?_
                                    clear hK K
                                    refine wpAnyIn_ready (rs := [6]) (by kernel_rfl) (by simp) ?_
                                    refine AllReadyIn.cons rfl (fun K hK => ?_) ?_
                                    · have hK' := hK; clear hK; have hK := hK'; clear hK'
                                      go_simp
                                      refine hK _ _ ?_
                                      clear hK K
                                      refine wpAnyIn_ready (rs := [7]) (by kernel_rfl) (by simp) ?_
                                      refine AllReadyIn.cons rfl (fun K hK => ?_) ?_
                                      · have hK' := hK; clear hK; have hK := hK'; clear hK'
                                        obtain ⟨A3, c3, W3, hrun, o3, g3⟩ := OwnE.push2 (W := w6.drew) (hI6.out.keep (Below.refl _ _).drew).own (by have := hI6.out.small; omega) (x0, x1, x2) 1
                                        go_simp
                                        have hrun' := (show (appSem #[25, 25] 25 #[.slice A1 n1 c1, .slice (some ⟨w6.heap.size, 0, none⟩) 1 1]).run Tryd.prog ((w6.alloc (.cells #[.int .i64 x0, .int .i64 x1, .int .i64 x2] 56)).drew) = _ from hrun)
                                        rw [hrun']
                                        go_simp
                                        have hX := Lib.hid ((hI6.out.keep (Below.refl _ _).drew).pushed o3 g3 hn1 hb9w hbq0)
                                        have x9 := hX.out.1.cell
                                        have y9 := hX.out.1.frozen
                                        refine hK _ _ ?_
                                        clear hK K
                                        refine wpAnyIn_ready (rs := [8]) (by kernel_rfl) (by simp) ?_
                                        refine AllReadyIn.cons rfl (fun K hK => ?_) ?_
                                        · have hK' := hK; clear hK; have hK := hK'; clear hK'
                                          go_simp
                                          refine hK _ _ ?_
                                          clear hK K
                                          refine wpAnyIn_done (by kernel_rfl) ?_ _
                                          gi_wp2
                                          exact hfin.out b9 w6.drew W3 A3 c3 _ ((((Below.refl _ _).drew.trans b5).trans (b6.mono b5.size)).drew) (fun j o hj ho => hI6.out.own.rowCells j o hj ho) g3 hX.out.2 hI6.out.bs hI6.out.bn (hI6.out.own.rowNe hI6.out.bs (by decide)) (hI6.out.own.rowNe hI6.out.bn (by decide))
                                        exact AllReadyIn.nil
                                      exact AllReadyIn.nil
                                    exact AllReadyIn.nil
                                  refine AllReadyIn.cons rfl (fun K hK => ?_) ?_
                                  · have hK' := hK; clear hK; have hK := hK'; clear hK'
                                    go_simp
                                    refine hK _ _ ?_
                                    clear hK K
                                    refine wpAnyIn_ready (rs := [0]) (by kernel_rfl) (by simp) ?_
                                    refine AllReadyIn.cons rfl (fun K hK => ?_) ?_
                                    · have hK' := hK; clear hK; have hK := hK'; clear hK'
                                      go_simp
                                      refine hK _ _ ?_
                                      clear hK K
                                      refine wpAnyIn_ready (rs := [7]) (by kernel_rfl) (by simp) ?_
                                      refine AllReadyIn.cons rfl (fun K hK => ?_) ?_
                                      · have hK' := hK; clear hK; have hK := hK'; clear hK'
                                        obtain ⟨A3, c3, W3, hrun, o3, g3⟩ := OwnE.push2 (W := w6.drew) (hI6.out.keep (Below.refl _ _).drew).own (by have := hI6.out.small; omega) (x0, x1, x2) 1
                                        go_simp
                                        have hrun' := (show (appSem #[25, 25] 25 #[.slice A1 n1 c1, .slice (some ⟨w6.heap.size, 0, none⟩) 1 1]).run Tryd.prog ((w6.alloc (.cells #[.int .i64 x0, .int .i64 x1, .int .i64 x2] 56)).drew) = _ from hrun)
                                        rw [hrun']
                                        go_simp
                                        have hX := Lib.hid ((hI6.out.keep (Below.refl _ _).drew).pushed o3 g3 hn1 hb9w hbq0)
                                        have x9 := hX.out.1.cell
                                        have y9 := hX.out.1.frozen
                                        refine hK _ _ ?_
                                        clear hK K
                                        refine wpAnyIn_ready (rs := [8]) (by kernel_rfl) (by simp) ?_
                                        refine AllReadyIn.cons rfl (fun K hK => ?_) ?_
                                        · have hK' := hK; clear hK; have hK := hK'; clear hK'
                                          go_simp
                                          refine hK _ _ ?_
                                          clear hK K
                                          refine wpAnyIn_done (by kernel_rfl) ?_ _
                                          gi_wp2
                                          exact hfin.out b9 w6.drew W3 A3 c3 _ ((((Below.refl _ _).drew.trans b5).trans (b6.mono b5.size)).drew) (fun j o hj ho => hI6.out.own.rowCells j o hj ho) g3 hX.out.2 hI6.out.bs hI6.out.bn (hI6.out.own.rowNe hI6.out.bs (by decide)) (hI6.out.own.rowNe hI6.out.bn (by decide))
                                        exact AllReadyIn.nil
                                      exact AllReadyIn.nil
                                    exact AllReadyIn.nil
                                  exact AllReadyIn.nil
                                exact AllReadyIn.nil
                              exact AllReadyIn.nil
                            exact AllReadyIn.nil
                          exact AllReadyIn.nil
                        refine AllReadyIn.cons rfl (fun K hK => ?_) ?_
                        · have hK' := hK; clear hK; have hK := hK'; clear hK'
                          go_simp
                          refine hK _ _ ?_
                          clear hK K
                          refine wpAnyIn_ready (rs := [14]) (by kernel_rfl) (by simp) ?_
                          refine AllReadyIn.cons rfl (fun K hK => ?_) ?_
                          · have hK' := hK; clear hK; have hK := hK'; clear hK'
                            go_simp
                            refine hK _ _ ?_
                            clear hK K
                            refine wpAnyIn_ready (rs := [20]) (by kernel_rfl) (by simp) ?_
                            refine AllReadyIn.cons rfl (fun K hK => ?_) ?_
                            · have hK' := hK; clear hK; have hK := hK'; clear hK'
                              go_simp
                              gi_wp2_with (refine ⟨trivial, ?_⟩; gi_at_call 27; refine (callsIn_wide.2 (contains_any A1 n1 c1 (candF l pre) (x0, x1, x2) _ hI5.out.own.es (by have := hI5.out.small; omega))).mono ?_; rintro e w6 ⟨rfl, b6⟩; rw [hin])
                              have hI6 := Lib.hid (hI5.out.keep b6)
                              have m3 := hI6.out.box.cell
                              have m9 := hI6.out.ob.cell
                              have n9 := hI6.out.ob.frozen
                              have l9 := hI6.out.ob.lt
                              have l3 := hI6.out.box.lt
                              have t0 := (b6.cell (p := ⟨bx, o + n * 3, none⟩) hbx5).trans u0
                              have t1 := (b6.cell (p := ⟨bx, o + n * 3 + 1, none⟩) hbx5).trans u1
                              have t2 := (b6.cell (p := ⟨bx, o + n * 3 + 2, none⟩) hbx5).trans u2
                              refine wpAnyIn_take (i := 21) (v := ?_) rfl rfl (by kernel_rfl) (by kernel_rfl) (by kernel_rfl) (fun _ _ _ h => h) ⟨Or.inl ⟨by rfl, by intro w; go_simp; first | done | with_reducible rfl⟩, fun _ => rfl⟩ ?_
                              simp only [List.getElem_toArray, List.getElem_cons_succ, List.getElem_cons_zero, Act.put, List.setIfInBounds_toArray, List.set_cons_zero, List.set_cons_succ]
                              refine wpAnyIn_take (i := 22) (v := ?_) rfl rfl (by kernel_rfl) (by kernel_rfl) (by kernel_rfl) (fun _ _ _ h => h) ⟨Or.inl ⟨by rfl, by intro w; go_simp; first | done | with_reducible rfl⟩, fun _ => rfl⟩ ?_
                              simp only [List.getElem_toArray, List.getElem_cons_succ, List.getElem_cons_zero, Act.put, List.setIfInBounds_toArray, List.set_cons_zero, List.set_cons_succ]
                              refine wpAnyIn_done (by kernel_rfl) ?_ _
                              gi_wp2
                              refine wpIn_region_any (by kernel_rfl) ?_
                              try (change wpAnyIn _ _ _ _ _ _ _ _ _ (World.drew _))
                              refine wpAnyIn_round (l := l') rfl (by intro i o hi c; revert hi; exact noDefer_spec (by kernel_rfl) i o c) _ _ _ _ ?_
                              refine wpAnyIn_take (i := 1) (v := ?_) rfl rfl (by kernel_rfl) (by kernel_rfl) (by kernel_rfl) (fun _ _ _ h => h) ⟨Or.inl ⟨by rfl, by intro w; go_simp; first | done | with_reducible rfl⟩, fun _ => rfl⟩ ?_
                              simp only [List.getElem_toArray, List.getElem_cons_succ, List.getElem_cons_zero, Act.put, List.setIfInBounds_toArray, List.set_cons_zero, List.set_cons_succ]
                              refine wpAnyIn_ready (rs := [0, 2]) (by kernel_rfl) (by simp) ?_
                              refine AllReadyIn.cons rfl (fun K hK => ?_) ?_
                              · have hK' := hK; clear hK; have hK := hK'; clear hK'
                                go_simp
                                refine hK _ _ ?_
                                clear hK K
                                refine wpAnyIn_ready (rs := [2]) (by kernel_rfl) (by simp) ?_
                                refine AllReadyIn.cons rfl (fun K hK => ?_) ?_
                                · have hK' := hK; clear hK; have hK := hK'; clear hK'
                                  go_simp
                                  refine hK _ _ ?_
                                  clear hK K
                                  refine wpAnyIn_take (i := 3) (v := ?_) rfl rfl (by kernel_rfl) (by kernel_rfl) (by kernel_rfl) (fun _ _ _ h => h) ⟨Or.inl ⟨by rfl, by intro w; go_simp; first | done | with_reducible rfl⟩, fun _ => rfl⟩ ?_
                                  simp only [List.getElem_toArray, List.getElem_cons_succ, List.getElem_cons_zero, Act.put, List.setIfInBounds_toArray, List.set_cons_zero, List.set_cons_succ]
                                  refine wpAnyIn_take (i := 4) (v := ?_) rfl rfl (by kernel_rfl) (by kernel_rfl) (by kernel_rfl) (fun _ _ _ h => h) ⟨Or.inl ⟨by rfl, by intro w; go_simp; first | done | with_reducible rfl⟩, fun _ => rfl⟩ ?_
                                  simp only [List.getElem_toArray, List.getElem_cons_succ, List.getElem_cons_zero, Act.put, List.setIfInBounds_toArray, List.set_cons_zero, List.set_cons_succ]
                                  refine wpAnyIn_ready (rs := [5]) (by kernel_rfl) (by simp) ?_
                                  refine AllReadyIn.cons rfl (fun K hK => ?_) ?_
                                  · have hK' := hK; clear hK; have hK := hK'; clear hK'
                                    go_simp
                                    refine hK _ _ ?_
                                    clear hK K
                                    refine wpAnyIn_ready (rs := [6]) (by kernel_rfl) (by simp) ?_
                                    refine AllReadyIn.cons rfl (fun K hK => ?_) ?_
                                    · have hK' := hK; clear hK; have hK := hK'; clear hK'
                                      go_simp
                                      refine hK _ _ ?_
                                      clear hK K
                                      refine wpAnyIn_ready (rs := [7]) (by kernel_rfl) (by simp) ?_
                                      refine AllReadyIn.cons rfl (fun K hK => ?_) ?_
                                      · have hK' := hK; clear hK; have hK := hK'; clear hK'
                                        obtain ⟨A3, c3, W3, hrun, o3, g3⟩ := OwnE.push2 (W := w6.drew) (hI6.out.keep (Below.refl _ _).drew).own (by have := hI6.out.small; omega) (x0, x1, x2) 1
                                        go_simp
                                        have hrun' := (show (appSem #[25, 25] 25 #[.slice A1 n1 c1, .slice (some ⟨w6.heap.size, 0, none⟩) 1 1]).run Tryd.prog ((w6.alloc (.cells #[.int .i64 x0, .int .i64 x1, .int .i64 x2] 56)).drew) = _ from hrun)
                                        rw [hrun']
                                        go_simp
                                        have hX := Lib.hid ((hI6.out.keep (Below.refl _ _).drew).pushed o3 g3 hn1 hb9w hbq0)
                                        have x9 := hX.out.1.cell
                                        have y9 := hX.out.1.frozen
                                        refine hK _ _ ?_
                                        clear hK K
                                        refine wpAnyIn_ready (rs := [8]) (by kernel_rfl) (by simp) ?_
                                        refine AllReadyIn.cons rfl (fun K hK => ?_) ?_
                                        · have hK' := hK; clear hK; have hK := hK'; clear hK'
                                          go_simp
                                          refine hK _ _ ?_
                                          clear hK K
                                          refine wpAnyIn_done (by kernel_rfl) ?_ _
                                          gi_wp2
                                          exact hfin.out b9 w6.drew W3 A3 c3 _ ((((Below.refl _ _).drew.trans b5).trans (b6.mono b5.size)).drew) (fun j o hj ho => hI6.out.own.rowCells j o hj ho) g3 hX.out.2 hI6.out.bs hI6.out.bn (hI6.out.own.rowNe hI6.out.bs (by decide)) (hI6.out.own.rowNe hI6.out.bn (by decide))
                                        exact AllReadyIn.nil
                                      exact AllReadyIn.nil
                                    exact AllReadyIn.nil
                                  exact AllReadyIn.nil
                                exact AllReadyIn.nil
                              refine AllReadyIn.cons rfl (fun K hK => ?_) ?_
                              · have hK' := hK; clear hK; have hK := hK'; clear hK'
                                go_simp
                                refine hK _ _ ?_
                                clear hK K
                                refine wpAnyIn_take (i := 3) (v := ?_) rfl rfl (by kernel_rfl) (by kernel_rfl) (by kernel_rfl) (fun _ _ _ h => h) ⟨Or.inl ⟨by rfl, by intro w; go_simp; first | done | with_reducible rfl⟩, fun _ => rfl⟩ ?_
                                simp only [List.getElem_toArray, List.getElem_cons_succ, List.getElem_cons_zero, Act.put, List.setIfInBounds_toArray, List.set_cons_zero, List.set_cons_succ]
                                refine wpAnyIn_take (i := 4) (v := ?_) rfl rfl (by kernel_rfl) (by kernel_rfl) (by kernel_rfl) (fun _ _ _ h => h) ⟨Or.inl ⟨by rfl, by intro w; go_simp; first | done | with_reducible rfl⟩, fun _ => rfl⟩ ?_
                                simp only [List.getElem_toArray, List.getElem_cons_succ, List.getElem_cons_zero, Act.put, List.setIfInBounds_toArray, List.set_cons_zero, List.set_cons_succ]
                                refine wpAnyIn_ready (rs := [0, 5]) (by kernel_rfl) (by simp) ?_
                                refine AllReadyIn.cons rfl (fun K hK => ?_) ?_
                                · have hK' := hK; clear hK; have hK := hK'; clear hK'
                                  go_simp
                                  refine hK _ _ ?_
                                  clear hK K
                                  refine wpAnyIn_ready (rs := [5]) (by kernel_rfl) (by simp) ?_
                                  refine AllReadyIn.cons rfl (fun K hK => ?_) ?_
                                  · have hK' := hK; clear hK; have hK := hK'; clear hK'
                                    go_simp
                                    refine hK _ _ ?_
                                    clear hK K
                                    refine wpAnyIn_ready (rs := [6]) (by kernel_rfl) (by simp) ?_
                                    refine AllReadyIn.cons rfl (fun K hK => ?_) ?_
                                    · have hK' := hK; clear hK; have hK := hK'; clear hK'
                                      go_simp
                                      refine hK _ _ ?_
                                      clear hK K
                                      refine wpAnyIn_ready (rs := [7]) (by kernel_rfl) (by simp) ?_
                                      refine AllReadyIn.cons rfl (fun K hK => ?_) ?_
                                      · have hK' := hK; clear hK; have hK := hK'; clear hK'
                                        obtain ⟨A3, c3, W3, hrun, o3, g3⟩ := OwnE.push2 (W := w6.drew) (hI6.out.keep (Below.refl _ _).drew).own (by have := hI6.out.small; omega) (x0, x1, x2) 1
                                        go_simp
                                        have hrun' := (show (appSem #[25, 25] 25 #[.slice A1 n1 c1, .slice (some ⟨w6.heap.size, 0, none⟩) 1 1]).run Tryd.prog ((w6.alloc (.cells #[.int .i64 x0, .int .i64 x1, .int .i64 x2] 56)).drew) = _ from hrun)
                                        rw [hrun']
                                        go_simp
                                        have hX := Lib.hid ((hI6.out.keep (Below.refl _ _).drew).pushed o3 g3 hn1 hb9w hbq0)
                                        have x9 := hX.out.1.cell
                                        have y9 := hX.out.1.frozen
                                        refine hK _ _ ?_
                                        clear hK K
                                        refine wpAnyIn_ready (rs := [8]) (by kernel_rfl) (by simp) ?_
                                        refine AllReadyIn.cons rfl (fun K hK => ?_) ?_
                                        · have hK' := hK; clear hK; have hK := hK'; clear hK'
                                          go_simp
                                          refine hK _ _ ?_
                                          clear hK K
                                          refine wpAnyIn_done (by kernel_rfl) ?_ _
                                          gi_wp2
                                          exact hfin.out b9 w6.drew W3 A3 c3 _ ((((Below.refl _ _).drew.trans b5).trans (b6.mono b5.size)).drew) (fun j o hj ho => hI6.out.own.rowCells j o hj ho) g3 hX.out.2 hI6.out.bs hI6.out.bn (hI6.out.own.rowNe hI6.out.bs (by decide)) (hI6.out.own.rowNe hI6.out.bn (by decide))
                                        exact AllReadyIn.nil
                                      exact AllReadyIn.nil
                                    exact AllReadyIn.nil
                                  exact AllReadyIn.nil
                                refine AllReadyIn.cons rfl (fun K hK => ?_) ?_
                                · have hK' := hK; clear hK; have hK := hK'; clear hK'
                                  go_simp
                                  refine hK _ _ ?_
                                  clear hK K
                                  refine wpAnyIn_ready (rs := [0, 6]) (by kernel_rfl) (by simp) ?_
                                  refine AllReadyIn.cons rfl (fun K hK => ?_) ?_
                                  · have hK' := hK; clear hK; have hK := hK'; clear hK'
                                    go_simp
                                    refine hK _ _ ?_
                                    clear hK K
                                    refine wpAnyIn_ready (rs := [6]) (by kernel_rfl) (by simp) ?_
                                    refine AllReadyIn.cons rfl (fun K hK => ?_) ?_
                                    · have hK' := hK; clear hK; have hK := hK'; clear hK'
                                      go_simp
                                      refine hK _ _ ?_
                                      clear hK K
                                      refine wpAnyIn_ready (rs := [7]) (by kernel_rfl) (by simp) ?_
                                      refine AllReadyIn.cons rfl (fun K hK => ?_) ?_
                                      · have hK' := hK; clear hK; have hK := hK'; clear hK'
                                        obtain ⟨A3, c3, W3, hrun, o3, g3⟩ := OwnE.push2 (W := w6.drew) (hI6.out.keep (Below.refl _ _).drew).own (by have := hI6.out.small; omega) (x0, x1, x2) 1
                                        go_simp
                                        have hrun' := (show (appSem #[25, 25] 25 #[.slice A1 n1 c1, .slice (some ⟨w6.heap.size, 0, none⟩) 1 1]).run Tryd.prog ((w6.alloc (.cells #[.int .i64 x0, .int .i64 x1, .int .i64 x2] 56)).drew) = _ from hrun)
                                        rw [hrun']
                                        go_simp
                                        have hX := Lib.hid ((hI6.out.keep (Below.refl _ _).drew).pushed o3 g3 hn1 hb9w hbq0)
                                        have x9 := hX.out.1.cell
                                        have y9 := hX.out.1.frozen
                                        refine hK _ _ ?_
                                        clear hK K
                                        refine wpAnyIn_ready (rs := [8]) (by kernel_rfl) (by simp) ?_
                                        refine AllReadyIn.cons rfl (fun K hK => ?_) ?_
                                        · have hK' := hK; clear hK; have hK := hK'; clear hK'
                                          go_simp
                                          refine hK _ _ ?_
                                          clear hK K
                                          refine wpAnyIn_done (by kernel_rfl) ?_ _
                                          gi_wp2
                                          exact hfin.out b9 w6.drew W3 A3 c3 _ ((((Below.refl _ _).drew.trans b5).trans (b6.mono b5.size)).drew) (fun j o hj ho => hI6.out.own.rowCells j o hj ho) g3 hX.out.2 hI6.out.bs hI6.out.bn (hI6.out.own.rowNe hI6.out.bs (by decide)) (hI6.out.own.rowNe hI6.out.bn (by decide))
                                        exact AllReadyIn.nil
                                      exact AllReadyIn.nil
                                    exact AllReadyIn.nil
                                  refine AllReadyIn.cons rfl (fun K hK => ?_) ?_
                                  · have hK' := hK; clear hK; have hK := hK'; clear hK'
                                    go_simp
                                    refine hK _ _ ?_
                                    clear hK K
                                    refine wpAnyIn_ready (rs := [0]) (by kernel_rfl) (by simp) ?_
                                    refine AllReadyIn.cons rfl (fun K hK => ?_) ?_
                                    · have hK' := hK; clear hK; have hK := hK'; clear hK'
                                      go_simp
                                      refine hK _ _ ?_
                                      clear hK K
                                      refine wpAnyIn_ready (rs := [7]) (by kernel_rfl) (by simp) ?_
                                      refine AllReadyIn.cons rfl (fun K hK => ?_) ?_
                                      · have hK' := hK; clear hK; have hK := hK'; clear hK'
                                        obtain ⟨A3, c3, W3, hrun, o3, g3⟩ := OwnE.push2 (W := w6.drew) (hI6.out.keep (Below.refl _ _).drew).own (by have := hI6.out.small; omega) (x0, x1, x2) 1
                                        go_simp
                                        have hrun' := (show (appSem #[25, 25] 25 #[.slice A1 n1 c1, .slice (some ⟨w6.heap.size, 0, none⟩) 1 1]).run Tryd.prog ((w6.alloc (.cells #[.int .i64 x0, .int .i64 x1, .int .i64 x2] 56)).drew) = _ from hrun)
                                        rw [hrun']
                                        go_simp
                                        have hX := Lib.hid ((hI6.out.keep (Below.refl _ _).drew).pushed o3 g3 hn1 hb9w hbq0)
                                        have x9 := hX.out.1.cell
                                        have y9 := hX.out.1.frozen
                                        refine hK _ _ ?_
                                        clear hK K
                                        refine wpAnyIn_ready (rs := [8]) (by kernel_rfl) (by simp) ?_
                                        refine AllReadyIn.cons rfl (fun K hK => ?_) ?_
                                        · have hK' := hK; clear hK; have hK := hK'; clear hK'
                                          go_simp
                                          refine hK _ _ ?_
                                          clear hK K
                                          refine wpAnyIn_done (by kernel_rfl) ?_ _
                                          gi_wp2
                                          exact hfin.out b9 w6.drew W3 A3 c3 _ ((((Below.refl _ _).drew.trans b5).trans (b6.mono b5.size)).drew) (fun j o hj ho => hI6.out.own.rowCells j o hj ho) g3 hX.out.2 hI6.out.bs hI6.out.bn (hI6.out.own.rowNe hI6.out.bs (by decide)) (hI6.out.own.rowNe hI6.out.bn (by decide))
                                        exact AllReadyIn.nil
                                      exact AllReadyIn.nil
                                    exact AllReadyIn.nil
                                  exact AllReadyIn.nil
                                exact AllReadyIn.nil
                              exact AllReadyIn.nil
                            exact AllReadyIn.nil
                          exact AllReadyIn.nil
                        exact AllReadyIn.nil
                      exact AllReadyIn.nil
                    exact AllReadyIn.nil
                  exact AllReadyIn.nil
                refine AllReadyIn.cons rfl (fun K hK => ?_) ?_
                · have hK' := hK; clear hK; have hK := hK'; clear hK'
                  go_simp
                  refine hK _ _ ?_
                  clear hK K
                  refine wpAnyIn_take (i := 10) (v := ?_) rfl rfl (by kernel_rfl) (by kernel_rfl) (by kernel_rfl) (fun _ _ _ h => h) ⟨Or.inl ⟨by rfl, by intro w; go_simp; first | done | with_reducible rfl⟩, fun _ => rfl⟩ ?_
                  simp only [List.getElem_toArray, List.getElem_cons_succ, List.getElem_cons_zero, Act.put, List.setIfInBounds_toArray, List.set_cons_zero, List.set_cons_succ]
                  refine wpAnyIn_ready (rs := [6]) (by kernel_rfl) (by simp) ?_
                  refine AllReadyIn.cons rfl (fun K hK => ?_) ?_
                  · have hK' := hK; clear hK; have hK := hK'; clear hK'
                    go_simp
                    refine hK _ _ ?_
                    clear hK K
                    refine wpAnyIn_ready (rs := [8]) (by kernel_rfl) (by simp) ?_
                    refine AllReadyIn.cons rfl (fun K hK => ?_) ?_
                    · have hK' := hK; clear hK; have hK := hK'; clear hK'
                      go_simp
                      gi_wp2_with (refine ⟨trivial, ?_⟩; gi_at_call 26; refine (callsIn_wide.2 (begins_any _ _ n c n2 c2 l x.2 _ E1 E2 hn hm)).mono ?_; rintro e w5 ⟨rfl, b5⟩)
                      have hI5 := Lib.hid (hId.out.keep b5)
                      have E1x : ES w5 A n l := SL.keep E1 b5
                      have d3 := hI5.out.box.cell
                      have d9 := hI5.out.ob.cell
                      have g9 := hI5.out.ob.frozen
                      have hbx5 := Nat.lt_of_lt_of_le hbx b5.size
                      have u0 := (b5.cell (p := ⟨bx, o + n * 3, none⟩) hbx).trans v0
                      have u1 := (b5.cell (p := ⟨bx, o + n * 3 + 1, none⟩) hbx).trans v1
                      have u2 := (b5.cell (p := ⟨bx, o + n * 3 + 2, none⟩) hbx).trans v2
                      refine wpAnyIn_take (i := 11) (v := ?_) rfl rfl (by kernel_rfl) (by kernel_rfl) (by kernel_rfl) (fun _ _ _ h => h) ⟨Or.inl ⟨by rfl, by intro w; go_simp; first | done | with_reducible rfl⟩, fun _ => rfl⟩ ?_
                      simp only [List.getElem_toArray, List.getElem_cons_succ, List.getElem_cons_zero, Act.put, List.setIfInBounds_toArray, List.set_cons_zero, List.set_cons_succ]
                      refine wpAnyIn_take (i := 12) (v := ?_) rfl rfl (by kernel_rfl) (by kernel_rfl) (by kernel_rfl) (fun _ _ _ h => h) ⟨Or.inl ⟨by rfl, by intro w; go_simp; first | done | with_reducible rfl⟩, fun _ => rfl⟩ ?_
                      simp only [List.getElem_toArray, List.getElem_cons_succ, List.getElem_cons_zero, Act.put, List.setIfInBounds_toArray, List.set_cons_zero, List.set_cons_succ]
                      refine wpAnyIn_take (i := 13) (v := ?_) rfl rfl (by kernel_rfl) (by kernel_rfl) (by kernel_rfl) (fun _ _ _ h => h) ⟨Or.inl ⟨by rfl, by intro w; go_simp; first | done | with_reducible rfl⟩, fun _ => rfl⟩ ?_
                      simp only [List.getElem_toArray, List.getElem_cons_succ, List.getElem_cons_zero, Act.put, List.setIfInBounds_toArray, List.set_cons_zero, List.set_cons_succ]
                      refine wpAnyIn_take (i := 15) (v := ?_) rfl rfl (by kernel_rfl) (by kernel_rfl) (by kernel_rfl) (fun _ _ _ h => h) ⟨Or.inl ⟨by rfl, by intro w; go_simp; first | done | with_reducible rfl⟩, fun _ => rfl⟩ ?_
                      simp only [List.getElem_toArray, List.getElem_cons_succ, List.getElem_cons_zero, Act.put, List.setIfInBounds_toArray, List.set_cons_zero, List.set_cons_succ]
                      refine wpAnyIn_ready (rs := [14, 16]) (by kernel_rfl) (by simp) ?_
                      refine AllReadyIn.cons rfl (fun K hK => ?_) ?_
                      · have hK' := hK; clear hK; have hK := hK'; clear hK'
                        go_simp
                        refine hK _ _ ?_
                        clear hK K
                        refine wpAnyIn_ready (rs := [16]) (by kernel_rfl) (by simp) ?_
                        refine AllReadyIn.cons rfl (fun K hK => ?_) ?_
                        · have hK' := hK; clear hK; have hK := hK'; clear hK'
                          go_simp
                          refine hK _ _ ?_
                          clear hK K
                          refine wpAnyIn_take (i := 17) (v := ?_) rfl rfl (by kernel_rfl) (by kernel_rfl) (by kernel_rfl) (fun _ _ _ h => h) ⟨Or.inl ⟨by rfl, by intro w; go_simp; first | done | with_reducible rfl⟩, fun _ => rfl⟩ ?_
                          simp only [List.getElem_toArray, List.getElem_cons_succ, List.getElem_cons_zero, Act.put, List.setIfInBounds_toArray, List.set_cons_zero, List.set_cons_succ]
                          refine wpAnyIn_take (i := 18) (v := ?_) rfl rfl (by kernel_rfl) (by kernel_rfl) (by kernel_rfl) (fun _ _ _ h => h) ⟨Or.inl ⟨by rfl, by intro w; go_simp; first | done | with_reducible rfl⟩, fun _ => rfl⟩ ?_
                          simp only [List.getElem_toArray, List.getElem_cons_succ, List.getElem_cons_zero, Act.put, List.setIfInBounds_toArray, List.set_cons_zero, List.set_cons_succ]
                          refine wpAnyIn_ready (rs := [19]) (by kernel_rfl) (by simp) ?_
                          refine AllReadyIn.cons rfl (fun K hK => ?_) ?_
                          · have hK' := hK; clear hK; have hK := hK'; clear hK'
                            go_simp
                            refine hK _ _ ?_
                            clear hK K
                            refine wpAnyIn_ready (rs := [20]) (by kernel_rfl) (by simp) ?_
                            refine AllReadyIn.cons rfl (fun K hK => ?_) ?_
                            · have hK' := hK; clear hK; have hK := hK'; clear hK'
                              go_simp
                              gi_wp2_with (refine ⟨trivial, ?_⟩; gi_at_call 27; refine (callsIn_wide.2 (contains_any A1 n1 c1 (candF l pre) (x0, x1, x2) _ hI5.out.own.es (by have := hI5.out.small; omega))).mono ?_; rintro e w6 ⟨rfl, b6⟩; rw [hin])
                              have hI6 := Lib.hid (hI5.out.keep b6)
                              have m3 := hI6.out.box.cell
                              have m9 := hI6.out.ob.cell
                              have n9 := hI6.out.ob.frozen
                              have l9 := hI6.out.ob.lt
                              have l3 := hI6.out.box.lt
                              have t0 := (b6.cell (p := ⟨bx, o + n * 3, none⟩) hbx5).trans u0
                              have t1 := (b6.cell (p := ⟨bx, o + n * 3 + 1, none⟩) hbx5).trans u1
                              have t2 := (b6.cell (p := ⟨bx, o + n * 3 + 2, none⟩) hbx5).trans u2
                              refine wpAnyIn_take (i := 21) (v := ?_) rfl rfl (by kernel_rfl) (by kernel_rfl) (by kernel_rfl) (fun _ _ _ h => h) ⟨Or.inl ⟨by rfl, by intro w; go_simp; first | done | with_reducible rfl⟩, fun _ => rfl⟩ ?_
                              simp only [List.getElem_toArray, List.getElem_cons_succ, List.getElem_cons_zero, Act.put, List.setIfInBounds_toArray, List.set_cons_zero, List.set_cons_succ]
                              refine wpAnyIn_take (i := 22) (v := ?_) rfl rfl (by kernel_rfl) (by kernel_rfl) (by kernel_rfl) (fun _ _ _ h => h) ⟨Or.inl ⟨by rfl, by intro w; go_simp; first | done | with_reducible rfl⟩, fun _ => rfl⟩ ?_
                              simp only [List.getElem_toArray, List.getElem_cons_succ, List.getElem_cons_zero, Act.put, List.setIfInBounds_toArray, List.set_cons_zero, List.set_cons_succ]
                              refine wpAnyIn_done (by kernel_rfl) ?_ _
                              gi_wp2
                              refine wpIn_region_any (by kernel_rfl) ?_
                              try (change wpAnyIn _ _ _ _ _ _ _ _ _ (World.drew _))
                              refine wpAnyIn_round (l := l') rfl (by intro i o hi c; revert hi; exact noDefer_spec (by kernel_rfl) i o c) _ _ _ _ ?_
                              refine wpAnyIn_take (i := 1) (v := ?_) rfl rfl (by kernel_rfl) (by kernel_rfl) (by kernel_rfl) (fun _ _ _ h => h) ⟨Or.inl ⟨by rfl, by intro w; go_simp; first | done | with_reducible rfl⟩, fun _ => rfl⟩ ?_
                              simp only [List.getElem_toArray, List.getElem_cons_succ, List.getElem_cons_zero, Act.put, List.setIfInBounds_toArray, List.set_cons_zero, List.set_cons_succ]
                              refine wpAnyIn_ready (rs := [0, 2]) (by kernel_rfl) (by simp) ?_
                              refine AllReadyIn.cons rfl (fun K hK => ?_) ?_
                              · have hK' := hK; clear hK; have hK := hK'; clear hK'
                                go_simp
                                refine hK _ _ ?_
                                clear hK K
                                refine wpAnyIn_ready (rs := [2]) (by kernel_rfl) (by simp) ?_
                                refine AllReadyIn.cons rfl (fun K hK => ?_) ?_
                                · have hK' := hK; clear hK; have hK := hK'; clear hK'
                                  go_simp
                                  refine hK _ _ ?_
                                  clear hK K
                                  refine wpAnyIn_take (i := 3) (v := ?_) rfl rfl (by kernel_rfl) (by kernel_rfl) (by kernel_rfl) (fun _ _ _ h => h) ⟨Or.inl ⟨by rfl, by intro w; go_simp; first | done | with_reducible rfl⟩, fun _ => rfl⟩ ?_
                                  simp only [List.getElem_toArray, List.getElem_cons_succ, List.getElem_cons_zero, Act.put, List.setIfInBounds_toArray, List.set_cons_zero, List.set_cons_succ]
                                  refine wpAnyIn_take (i := 4) (v := ?_) rfl rfl (by kernel_rfl) (by kernel_rfl) (by kernel_rfl) (fun _ _ _ h => h) ⟨Or.inl ⟨by rfl, by intro w; go_simp; first | done | with_reducible rfl⟩, fun _ => rfl⟩ ?_
                                  simp only [List.getElem_toArray, List.getElem_cons_succ, List.getElem_cons_zero, Act.put, List.setIfInBounds_toArray, List.set_cons_zero, List.set_cons_succ]
                                  refine wpAnyIn_ready (rs := [5]) (by kernel_rfl) (by simp) ?_
                                  refine AllReadyIn.cons rfl (fun K hK => ?_) ?_
                                  · have hK' := hK; clear hK; have hK := hK'; clear hK'
                                    go_simp
                                    refine hK _ _ ?_
                                    clear hK K
                                    refine wpAnyIn_ready (rs := [6]) (by kernel_rfl) (by simp) ?_
                                    refine AllReadyIn.cons rfl (fun K hK => ?_) ?_
                                    · have hK' := hK; clear hK; have hK := hK'; clear hK'
                                      go_simp
                                      refine hK _ _ ?_
                                      clear hK K
                                      refine wpAnyIn_ready (rs := [7]) (by kernel_rfl) (by simp) ?_
                                      refine AllReadyIn.cons rfl (fun K hK => ?_) ?_
                                      · have hK' := hK; clear hK; have hK := hK'; clear hK'
                                        obtain ⟨A3, c3, W3, hrun, o3, g3⟩ := OwnE.push2 (W := w6.drew) (hI6.out.keep (Below.refl _ _).drew).own (by have := hI6.out.small; omega) (x0, x1, x2) 1
                                        go_simp
                                        have hrun' := (show (appSem #[25, 25] 25 #[.slice A1 n1 c1, .slice (some ⟨w6.heap.size, 0, none⟩) 1 1]).run Tryd.prog ((w6.alloc (.cells #[.int .i64 x0, .int .i64 x1, .int .i64 x2] 56)).drew) = _ from hrun)
                                        rw [hrun']
                                        go_simp
                                        have hX := Lib.hid ((hI6.out.keep (Below.refl _ _).drew).pushed o3 g3 hn1 hb9w hbq0)
                                        have x9 := hX.out.1.cell
                                        have y9 := hX.out.1.frozen
                                        refine hK _ _ ?_
                                        clear hK K
                                        refine wpAnyIn_ready (rs := [8]) (by kernel_rfl) (by simp) ?_
                                        refine AllReadyIn.cons rfl (fun K hK => ?_) ?_
                                        · have hK' := hK; clear hK; have hK := hK'; clear hK'
                                          go_simp
                                          refine hK _ _ ?_
                                          clear hK K
                                          refine wpAnyIn_done (by kernel_rfl) ?_ _
                                          gi_wp2
                                          exact hfin.out b9 w6.drew W3 A3 c3 _ ((((Below.refl _ _).drew.trans b5).trans (b6.mono b5.size)).drew) (fun j o hj ho => hI6.out.own.rowCells j o hj ho) g3 hX.out.2 hI6.out.bs hI6.out.bn (hI6.out.own.rowNe hI6.out.bs (by decide)) (hI6.out.own.rowNe hI6.out.bn (by decide))
                                        exact AllReadyIn.nil
                                      exact AllReadyIn.nil
                                    exact AllReadyIn.nil
                                  exact AllReadyIn.nil
                                exact AllReadyIn.nil
                              refine AllReadyIn.cons rfl (fun K hK => ?_) ?_
                              · have hK' := hK; clear hK; have hK := hK'; clear hK'
                                go_simp
                                refine hK _ _ ?_
                                clear hK K
                                refine wpAnyIn_take (i := 3) (v := ?_) rfl rfl (by kernel_rfl) (by kernel_rfl) (by kernel_rfl) (fun _ _ _ h => h) ⟨Or.inl ⟨by rfl, by intro w; go_simp; first | done | with_reducible rfl⟩, fun _ => rfl⟩ ?_
                                simp only [List.getElem_toArray, List.getElem_cons_succ, List.getElem_cons_zero, Act.put, List.setIfInBounds_toArray, List.set_cons_zero, List.set_cons_succ]
                                refine wpAnyIn_take (i := 4) (v := ?_) rfl rfl (by kernel_rfl) (by kernel_rfl) (by kernel_rfl) (fun _ _ _ h => h) ⟨Or.inl ⟨by rfl, by intro w; go_simp; first | done | with_reducible rfl⟩, fun _ => rfl⟩ ?_
                                simp only [List.getElem_toArray, List.getElem_cons_succ, List.getElem_cons_zero, Act.put, List.setIfInBounds_toArray, List.set_cons_zero, List.set_cons_succ]
                                refine wpAnyIn_ready (rs := [0, 5]) (by kernel_rfl) (by simp) ?_
                                refine AllReadyIn.cons rfl (fun K hK => ?_) ?_
                                · have hK' := hK; clear hK; have hK := hK'; clear hK'
                                  go_simp
                                  refine hK _ _ ?_
                                  clear hK K
                                  refine wpAnyIn_ready (rs := [5]) (by kernel_rfl) (by simp) ?_
                                  refine AllReadyIn.cons rfl (fun K hK => ?_) ?_
                                  · have hK' := hK; clear hK; have hK := hK'; clear hK'
                                    go_simp
                                    refine hK _ _ ?_
                                    clear hK K
                                    refine wpAnyIn_ready (rs := [6]) (by kernel_rfl) (by simp) ?_
                                    refine AllReadyIn.cons rfl (fun K hK => ?_) ?_
                                    · have hK' := hK; clear hK; have hK := hK'; clear hK'
                                      go_simp
                                      refine hK _ _ ?_
                                      clear hK K
                                      refine wpAnyIn_ready (rs := [7]) (by kernel_rfl) (by simp) ?_
                                      refine AllReadyIn.cons rfl (fun K hK => ?_) ?_
                                      · have hK' := hK; clear hK; have hK := hK'; clear hK'
                                        obtain ⟨A3, c3, W3, hrun, o3, g3⟩ := OwnE.push2 (W := w6.drew) (hI6.out.keep (Below.refl _ _).drew).own (by have := hI6.out.small; omega) (x0, x1, x2) 1
                                        go_simp
                                        have hrun' := (show (appSem #[25, 25] 25 #[.slice A1 n1 c1, .slice (some ⟨w6.heap.size, 0, none⟩) 1 1]).run Tryd.prog ((w6.alloc (.cells #[.int .i64 x0, .int .i64 x1, .int .i64 x2] 56)).drew) = _ from hrun)
                                        rw [hrun']
                                        go_simp
                                        have hX := Lib.hid ((hI6.out.keep (Below.refl _ _).drew).pushed o3 g3 hn1 hb9w hbq0)
                                        have x9 := hX.out.1.cell
                                        have y9 := hX.out.1.frozen
                                        refine hK _ _ ?_
                                        clear hK K
                                        refine wpAnyIn_ready (rs := [8]) (by kernel_rfl) (by simp) ?_
                                        refine AllReadyIn.cons rfl (fun K hK => ?_) ?_
                                        · have hK' := hK; clear hK; have hK := hK'; clear hK'
                                          go_simp
                                          refine hK _ _ ?_
                                          clear hK K
                                          refine wpAnyIn_done (by kernel_rfl) ?_ _
                                          gi_wp2
                                          exact hfin.out b9 w6.drew W3 A3 c3 _ ((((Below.refl _ _).drew.trans b5).trans (b6.mono b5.size)).drew) (fun j o hj ho => hI6.out.own.rowCells j o hj ho) g3 hX.out.2 hI6.out.bs hI6.out.bn (hI6.out.own.rowNe hI6.out.bs (by decide)) (hI6.out.own.rowNe hI6.out.bn (by decide))
                                        exact AllReadyIn.nil
                                      exact AllReadyIn.nil
                                    exact AllReadyIn.nil
                                  exact AllReadyIn.nil
                                refine AllReadyIn.cons rfl (fun K hK => ?_) ?_
                                · have hK' := hK; clear hK; have hK := hK'; clear hK'
                                  go_simp
                                  refine hK _ _ ?_
                                  clear hK K
                                  refine wpAnyIn_ready (rs := [0, 6]) (by kernel_rfl) (by simp) ?_
                                  refine AllReadyIn.cons rfl (fun K hK => ?_) ?_
                                  · have hK' := hK; clear hK; have hK := hK'; clear hK'
                                    go_simp
                                    refine hK _ _ ?_
                                    clear hK K
                                    refine wpAnyIn_ready (rs := [6]) (by kernel_rfl) (by simp) ?_
                                    refine AllReadyIn.cons rfl (fun K hK => ?_) ?_
                                    · have hK' := hK; clear hK; have hK := hK'; clear hK'
                                      go_simp
                                      refine hK _ _ ?_
                                      clear hK K
                                      refine wpAnyIn_ready (rs := [7]) (by kernel_rfl) (by simp) ?_
                                      refine AllReadyIn.cons rfl (fun K hK => ?_) ?_
                                      · have hK' := hK; clear hK; have hK := hK'; clear hK'
                                        obtain ⟨A3, c3, W3, hrun, o3, g3⟩ := OwnE.push2 (W := w6.drew) (hI6.out.keep (Below.refl _ _).drew).own (by have := hI6.out.small; omega) (x0, x1, x2) 1
                                        go_simp
                                        have hrun' := (show (appSem #[25, 25] 25 #[.slice A1 n1 c1, .slice (some ⟨w6.heap.size, 0, none⟩) 1 1]).run Tryd.prog ((w6.alloc (.cells #[.int .i64 x0, .int .i64 x1, .int .i64 x2] 56)).drew) = _ from hrun)
                                        rw [hrun']
                                        go_simp
                                        have hX := Lib.hid ((hI6.out.keep (Below.refl _ _).drew).pushed o3 g3 hn1 hb9w hbq0)
                                        have x9 := hX.out.1.cell
                                        have y9 := hX.out.1.frozen
                                        refine hK _ _ ?_
                                        clear hK K
                                        refine wpAnyIn_ready (rs := [8]) (by kernel_rfl) (by simp) ?_
                                        refine AllReadyIn.cons rfl (fun K hK => ?_) ?_
                                        · have hK' := hK; clear hK; have hK := hK'; clear hK'
                                          go_simp
                                          refine hK _ _ ?_
                                          clear hK K
                                          refine wpAnyIn_done (by kernel_rfl) ?_ _
                                          gi_wp2
                                          exact hfin.out b9 w6.drew W3 A3 c3 _ ((((Below.refl _ _).drew.trans b5).trans (b6.mono b5.size)).drew) (fun j o hj ho => hI6.out.own.rowCells j o hj ho) g3 hX.out.2 hI6.out.bs hI6.out.bn (hI6.out.own.rowNe hI6.out.bs (by decide)) (hI6.out.own.rowNe hI6.out.bn (by decide))
                                        exact AllReadyIn.nil
                                      exact AllReadyIn.nil
                                    exact AllReadyIn.nil
                                  refine AllReadyIn.cons rfl (fun K hK => ?_) ?_
                                  · have hK' := hK; clear hK; have hK := hK'; clear hK'
                                    go_simp
                                    refine hK _ _ ?_
                                    clear hK K
                                    refine wpAnyIn_ready (rs := [0]) (by kernel_rfl) (by simp) ?_
                                    refine AllReadyIn.cons rfl (fun K hK => ?_) ?_
                                    · have hK' := hK; clear hK; have hK := hK'; clear hK'
                                      go_simp
                                      refine hK _ _ ?_
                                      clear hK K
                                      refine wpAnyIn_ready (rs := [7]) (by kernel_rfl) (by simp) ?_
                                      refine AllReadyIn.cons rfl (fun K hK => ?_) ?_
                                      · have hK' := hK; clear hK; have hK := hK'; clear hK'
                                        obtain ⟨A3, c3, W3, hrun, o3, g3⟩ := OwnE.push2 (W := w6.drew) (hI6.out.keep (Below.refl _ _).drew).own (by have := hI6.out.small; omega) (x0, x1, x2) 1
                                        go_simp
                                        have hrun' := (show (appSem #[25, 25] 25 #[.slice A1 n1 c1, .slice (some ⟨w6.heap.size, 0, none⟩) 1 1]).run Tryd.prog ((w6.alloc (.cells #[.int .i64 x0, .int .i64 x1, .int .i64 x2] 56)).drew) = _ from hrun)
                                        rw [hrun']
                                        go_simp
                                        have hX := Lib.hid ((hI6.out.keep (Below.refl _ _).drew).pushed o3 g3 hn1 hb9w hbq0)
                                        have x9 := hX.out.1.cell
                                        have y9 := hX.out.1.frozen
                                        refine hK _ _ ?_
                                        clear hK K
                                        refine wpAnyIn_ready (rs := [8]) (by kernel_rfl) (by simp) ?_
                                        refine AllReadyIn.cons rfl (fun K hK => ?_) ?_
                                        · have hK' := hK; clear hK; have hK := hK'; clear hK'
                                          go_simp
                                          refine hK _ _ ?_
                                          clear hK K
                                          refine wpAnyIn_done (by kernel_rfl) ?_ _
                                          gi_wp2
                                          exact hfin.out b9 w6.drew W3 A3 c3 _ ((((Below.refl _ _).drew.trans b5).trans (b6.mono b5.size)).drew) (fun j o hj ho => hI6.out.own.rowCells j o hj ho) g3 hX.out.2 hI6.out.bs hI6.out.bn (hI6.out.own.rowNe hI6.out.bs (by decide)) (hI6.out.own.rowNe hI6.out.bn (by decide))
                                        exact AllReadyIn.nil
                                      exact AllReadyIn.nil
                                    exact AllReadyIn.nil
                                  exact AllReadyIn.nil
                                exact AllReadyIn.nil
                              exact AllReadyIn.nil
                            exact AllReadyIn.nil
                          exact AllReadyIn.nil
                        exact AllReadyIn.nil
                      refine AllReadyIn.cons rfl (fun K hK => ?_) ?_
                      · have hK' := hK; clear hK; have hK := hK'; clear hK'
                        go_simp
                        refine hK _ _ ?_
                        clear hK K
                        refine wpAnyIn_take (i := 17) (v := ?_) rfl rfl (by kernel_rfl) (by kernel_rfl) (by kernel_rfl) (fun _ _ _ h => h) ⟨Or.inl ⟨by rfl, by intro w; go_simp; first | done | with_reducible rfl⟩, fun _ => rfl⟩ ?_
                        simp only [List.getElem_toArray, List.getElem_cons_succ, List.getElem_cons_zero, Act.put, List.setIfInBounds_toArray, List.set_cons_zero, List.set_cons_succ]
                        refine wpAnyIn_take (i := 18) (v := ?_) rfl rfl (by kernel_rfl) (by kernel_rfl) (by kernel_rfl) (fun _ _ _ h => h) ⟨Or.inl ⟨by rfl, by intro w; go_simp; first | done | with_reducible rfl⟩, fun _ => rfl⟩ ?_
                        simp only [List.getElem_toArray, List.getElem_cons_succ, List.getElem_cons_zero, Act.put, List.setIfInBounds_toArray, List.set_cons_zero, List.set_cons_succ]
                        refine wpAnyIn_ready (rs := [14, 19]) (by kernel_rfl) (by simp) ?_
                        refine AllReadyIn.cons rfl (fun K hK => ?_) ?_
                        · have hK' := hK; clear hK; have hK := hK'; clear hK'
                          go_simp
                          refine hK _ _ ?_
                          clear hK K
                          refine wpAnyIn_ready (rs := [19]) (by kernel_rfl) (by simp) ?_
                          refine AllReadyIn.cons rfl (fun K hK => ?_) ?_
                          · have hK' := hK; clear hK; have hK := hK'; clear hK'
                            go_simp
                            refine hK _ _ ?_
                            clear hK K
                            refine wpAnyIn_ready (rs := [20]) (by kernel_rfl) (by simp) ?_
                            refine AllReadyIn.cons rfl (fun K hK => ?_) ?_
                            · have hK' := hK; clear hK; have hK := hK'; clear hK'
                              go_simp
                              gi_wp2_with (refine ⟨trivial, ?_⟩; gi_at_call 27; refine (callsIn_wide.2 (contains_any A1 n1 c1 (candF l pre) (x0, x1, x2) _ hI5.out.own.es (by have := hI5.out.small; omega))).mono ?_; rintro e w6 ⟨rfl, b6⟩; rw [hin])
                              have hI6 := Lib.hid (hI5.out.keep b6)
                              have m3 := hI6.out.box.cell
                              have m9 := hI6.out.ob.cell
                              have n9 := hI6.out.ob.frozen
                              have l9 := hI6.out.ob.lt
                              have l3 := hI6.out.box.lt
                              have t0 := (b6.cell (p := ⟨bx, o + n * 3, none⟩) hbx5).trans u0
                              have t1 := (b6.cell (p := ⟨bx, o + n * 3 + 1, none⟩) hbx5).trans u1
                              have t2 := (b6.cell (p := ⟨bx, o + n * 3 + 2, none⟩) hbx5).trans u2
                              refine wpAnyIn_take (i := 21) (v := ?_) rfl rfl (by kernel_rfl) (by kernel_rfl) (by kernel_rfl) (fun _ _ _ h => h) ⟨Or.inl ⟨by rfl, by intro w; go_simp; first | done | with_reducible rfl⟩, fun _ => rfl⟩ ?_
                              simp only [List.getElem_toArray, List.getElem_cons_succ, List.getElem_cons_zero, Act.put, List.setIfInBounds_toArray, List.set_cons_zero, List.set_cons_succ]
                              refine wpAnyIn_take (i := 22) (v := ?_) rfl rfl (by kernel_rfl) (by kernel_rfl) (by kernel_rfl) (fun _ _ _ h => h) ⟨Or.inl ⟨by rfl, by intro w; go_simp; first | done | with_reducible rfl⟩, fun _ => rfl⟩ ?_
                              simp only [List.getElem_toArray, List.getElem_cons_succ, List.getElem_cons_zero, Act.put, List.setIfInBounds_toArray, List.set_cons_zero, List.set_cons_succ]
                              refine wpAnyIn_done (by kernel_rfl) ?_ _
                              gi_wp2
                              refine wpIn_region_any (by kernel_rfl) ?_
                              try (change wpAnyIn _ _ _ _ _ _ _ _ _ (World.drew _))
                              refine wpAnyIn_round (l := l') rfl (by intro i o hi c; revert hi; exact noDefer_spec (by kernel_rfl) i o c) _ _ _ _ ?_
                              refine wpAnyIn_take (i := 1) (v := ?_) rfl rfl (by kernel_rfl) (by kernel_rfl) (by kernel_rfl) (fun _ _ _ h => h) ⟨Or.inl ⟨by rfl, by intro w; go_simp; first | done | with_reducible rfl⟩, fun _ => rfl⟩ ?_
                              simp only [List.getElem_toArray, List.getElem_cons_succ, List.getElem_cons_zero, Act.put, List.setIfInBounds_toArray, List.set_cons_zero, List.set_cons_succ]
                              refine wpAnyIn_ready (rs := [0, 2]) (by kernel_rfl) (by simp) ?_
                              refine AllReadyIn.cons rfl (fun K hK => ?_) ?_
                              · have hK' := hK; clear hK; have hK := hK'; clear hK'
                                go_simp
                                refine hK _ _ ?_
                                clear hK K
                                refine wpAnyIn_ready (rs := [2]) (by kernel_rfl) (by simp) ?_
                                refine AllReadyIn.cons rfl (fun K hK => ?_) ?_
                                · have hK' := hK; clear hK; have hK := hK'; clear hK'
                                  go_simp
                                  refine hK _ _ ?_
                                  clear hK K
                                  refine wpAnyIn_take (i := 3) (v := ?_) rfl rfl (by kernel_rfl) (by kernel_rfl) (by kernel_rfl) (fun _ _ _ h => h) ⟨Or.inl ⟨by rfl, by intro w; go_simp; first | done | with_reducible rfl⟩, fun _ => rfl⟩ ?_
                                  simp only [List.getElem_toArray, List.getElem_cons_succ, List.getElem_cons_zero, Act.put, List.setIfInBounds_toArray, List.set_cons_zero, List.set_cons_succ]
                                  refine wpAnyIn_take (i := 4) (v := ?_) rfl rfl (by kernel_rfl) (by kernel_rfl) (by kernel_rfl) (fun _ _ _ h => h) ⟨Or.inl ⟨by rfl, by intro w; go_simp; first | done | with_reducible rfl⟩, fun _ => rfl⟩ ?_
                                  simp only [List.getElem_toArray, List.getElem_cons_succ, List.getElem_cons_zero, Act.put, List.setIfInBounds_toArray, List.set_cons_zero, List.set_cons_succ]
                                  refine wpAnyIn_ready (rs := [5]) (by kernel_rfl) (by simp) ?_
                                  refine AllReadyIn.cons rfl (fun K hK => ?_) ?_
                                  · have hK' := hK; clear hK; have hK := hK'; clear hK'
                                    go_simp
                                    refine hK _ _ ?_
                                    clear hK K
                                    refine wpAnyIn_ready (rs := [6]) (by kernel_rfl) (by simp) ?_
                                    refine AllReadyIn.cons rfl (fun K hK => ?_) ?_
                                    · have hK' := hK; clear hK; have hK := hK'; clear hK'
                                      go_simp
                                      refine hK _ _ ?_
                                      clear hK K
                                      refine wpAnyIn_ready (rs := [7]) (by kernel_rfl) (by simp) ?_
                                      refine AllReadyIn.cons rfl (fun K hK => ?_) ?_
                                      · have hK' := hK; clear hK; have hK := hK'; clear hK'
                                        obtain ⟨A3, c3, W3, hrun, o3, g3⟩ := OwnE.push2 (W := w6.drew) (hI6.out.keep (Below.refl _ _).drew).own (by have := hI6.out.small; omega) (x0, x1, x2) 1
                                        go_simp
                                        have hrun' := (show (appSem #[25, 25] 25 #[.slice A1 n1 c1, .slice (some ⟨w6.heap.size, 0, none⟩) 1 1]).run Tryd.prog ((w6.alloc (.cells #[.int .i64 x0, .int .i64 x1, .int .i64 x2] 56)).drew) = _ from hrun)
                                        rw [hrun']
                                        go_simp
                                        have hX := Lib.hid ((hI6.out.keep (Below.refl _ _).drew).pushed o3 g3 hn1 hb9w hbq0)
                                        have x9 := hX.out.1.cell
                                        have y9 := hX.out.1.frozen
                                        refine hK _ _ ?_
                                        clear hK K
                                        refine wpAnyIn_ready (rs := [8]) (by kernel_rfl) (by simp) ?_
                                        refine AllReadyIn.cons rfl (fun K hK => ?_) ?_
                                        · have hK' := hK; clear hK; have hK := hK'; clear hK'
                                          go_simp
                                          refine hK _ _ ?_
                                          clear hK K
                                          refine wpAnyIn_done (by kernel_rfl) ?_ _
                                          gi_wp2
                                          exact hfin.out b9 w6.drew W3 A3 c3 _ ((((Below.refl _ _).drew.trans b5).trans (b6.mono b5.size)).drew) (fun j o hj ho => hI6.out.own.rowCells j o hj ho) g3 hX.out.2 hI6.out.bs hI6.out.bn (hI6.out.own.rowNe hI6.out.bs (by decide)) (hI6.out.own.rowNe hI6.out.bn (by decide))
                                        exact AllReadyIn.nil
                                      exact AllReadyIn.nil
                                    exact AllReadyIn.nil
                                  exact AllReadyIn.nil
                                exact AllReadyIn.nil
                              refine AllReadyIn.cons rfl (fun K hK => ?_) ?_
                              · have hK' := hK; clear hK; have hK := hK'; clear hK'
                                go_simp
                                refine hK _ _ ?_
                                clear hK K
                                refine wpAnyIn_take (i := 3) (v := ?_) rfl rfl (by kernel_rfl) (by kernel_rfl) (by kernel_rfl) (fun _ _ _ h => h) ⟨Or.inl ⟨by rfl, by intro w; go_simp; first | done | with_reducible rfl⟩, fun _ => rfl⟩ ?_
                                simp only [List.getElem_toArray, List.getElem_cons_succ, List.getElem_cons_zero, Act.put, List.setIfInBounds_toArray, List.set_cons_zero, List.set_cons_succ]
                                refine wpAnyIn_take (i := 4) (v := ?_) rfl rfl (by kernel_rfl) (by kernel_rfl) (by kernel_rfl) (fun _ _ _ h => h) ⟨Or.inl ⟨by rfl, by intro w; go_simp; first | done | with_reducible rfl⟩, fun _ => rfl⟩ ?_
                                simp only [List.getElem_toArray, List.getElem_cons_succ, List.getElem_cons_zero, Act.put, List.setIfInBounds_toArray, List.set_cons_zero, List.set_cons_succ]
                                refine wpAnyIn_ready (rs := [0, 5]) (by kernel_rfl) (by simp) ?_
                                refine AllReadyIn.cons rfl (fun K hK => ?_) ?_
                                · have hK' := hK; clear hK; have hK := hK'; clear hK'
                                  go_simp
                                  refine hK _ _ ?_
                                  clear hK K
                                  refine wpAnyIn_ready (rs := [5]) (by kernel_rfl) (by simp) ?_
                                  refine AllReadyIn.cons rfl (fun K hK => ?_) ?_
                                  · have hK' := hK; clear hK; have hK := hK'; clear hK'
                                    go_simp
                                    refine hK _ _ ?_
                                    clear hK K
                                    refine wpAnyIn_ready (rs := [6]) (by kernel_rfl) (by simp) ?_
                                    refine AllReadyIn.cons rfl (fun K hK => ?_) ?_
                                    · have hK' := hK; clear hK; have hK := hK'; clear hK'
                                      go_simp
                                      refine hK _ _ ?_
                                      clear hK K
                                      refine wpAnyIn_ready (rs := [7]) (by kernel_rfl) (by simp) ?_
                                      refine AllReadyIn.cons rfl (fun K hK => ?_) ?_
                                      · have hK' := hK; clear hK; have hK := hK'; clear hK'
                                        obtain ⟨A3, c3, W3, hrun, o3, g3⟩ := OwnE.push2 (W := w6.drew) (hI6.out.keep (Below.refl _ _).drew).own (by have := hI6.out.small; omega) (x0, x1, x2) 1
                                        go_simp
                                        have hrun' := (show (appSem #[25, 25] 25 #[.slice A1 n1 c1, .slice (some ⟨w6.heap.size, 0, none⟩) 1 1]).run Tryd.prog ((w6.alloc (.cells #[.int .i64 x0, .int .i64 x1, .int .i64 x2] 56)).drew) = _ from hrun)
                                        rw [hrun']
                                        go_simp
                                        have hX := Lib.hid ((hI6.out.keep (Below.refl _ _).drew).pushed o3 g3 hn1 hb9w hbq0)
                                        have x9 := hX.out.1.cell
                                        have y9 := hX.out.1.frozen
                                        refine hK _ _ ?_
                                        clear hK K
                                        refine wpAnyIn_ready (rs := [8]) (by kernel_rfl) (by simp) ?_
                                        refine AllReadyIn.cons rfl (fun K hK => ?_) ?_
                                        · have hK' := hK; clear hK; have hK := hK'; clear hK'
                                          go_simp
                                          refine hK _ _ ?_
                                          clear hK K
                                          refine wpAnyIn_done (by kernel_rfl) ?_ _
                                          gi_wp2
                                          exact hfin.out b9 w6.drew W3 A3 c3 _ ((((Below.refl _ _).drew.trans b5).trans (b6.mono b5.size)).drew) (fun j o hj ho => hI6.out.own.rowCells j o hj ho) g3 hX.out.2 hI6.out.bs hI6.out.bn (hI6.out.own.rowNe hI6.out.bs (by decide)) (hI6.out.own.rowNe hI6.out.bn (by decide))
                                        exact AllReadyIn.nil
                                      exact AllReadyIn.nil
                                    exact AllReadyIn.nil
                                  exact AllReadyIn.nil
                                refine AllReadyIn.cons rfl (fun K hK => ?_) ?_
                                · have hK' := hK; clear hK; have hK := hK'; clear hK'
                                  go_simp
                                  refine hK _ _ ?_
                                  clear hK K
                                  refine wpAnyIn_ready (rs := [0, 6]) (by kernel_rfl) (by simp) ?_
                                  refine AllReadyIn.cons rfl (fun K hK => ?_) ?_
                                  · have hK' := hK; clear hK; have hK := hK'; clear hK'
                                    go_simp
                                    refine hK _ _ ?_
                                    clear hK K
                                    refine wpAnyIn_ready (rs := [6]) (by kernel_rfl) (by simp) ?_
                                    refine AllReadyIn.cons rfl (fun K hK => ?_) ?_
                                    · have hK' := hK; clear hK; have hK := hK'; clear hK'
                                      go_simp
                                      refine hK _ _ ?_
                                      clear hK K
                                      refine wpAnyIn_ready (rs := [7]) (by kernel_rfl) (by simp) ?_
                                      refine AllReadyIn.cons rfl (fun K hK => ?_) ?_
                                      · have hK' := hK; clear hK; have hK := hK'; clear hK'
                                        obtain ⟨A3, c3, W3, hrun, o3, g3⟩ := OwnE.push2 (W := w6.drew) (hI6.out.keep (Below.refl _ _).drew).own (by have := hI6.out.small; omega) (x0, x1, x2) 1
                                        go_simp
                                        have hrun' := (show (appSem #[25, 25] 25 #[.slice A1 n1 c1, .slice (some ⟨w6.heap.size, 0, none⟩) 1 1]).run Tryd.prog ((w6.alloc (.cells #[.int .i64 x0, .int .i64 x1, .int .i64 x2] 56)).drew) = _ from hrun)
                                        rw [hrun']
                                        go_simp
                                        have hX := Lib.hid ((hI6.out.keep (Below.refl _ _).drew).pushed o3 g3 hn1 hb9w hbq0)
                                        have x9 := hX.out.1.cell
                                        have y9 := hX.out.1.frozen
                                        refine hK _ _ ?_
                                        clear hK K
                                        refine wpAnyIn_ready (rs := [8]) (by kernel_rfl) (by simp) ?_
                                        refine AllReadyIn.cons rfl (fun K hK => ?_) ?_
                                        · have hK' := hK; clear hK; have hK := hK'; clear hK'
                                          go_simp
                                          refine hK _ _ ?_
                                          clear hK K
                                          refine wpAnyIn_done (by kernel_rfl) ?_ _
                                          gi_wp2
                                          exact hfin.out b9 w6.drew W3 A3 c3 _ ((((Below.refl _ _).drew.trans b5).trans (b6.mono b5.size)).drew) (fun j o hj ho => hI6.out.own.rowCells j o hj ho) g3 hX.out.2 hI6.out.bs hI6.out.bn (hI6.out.own.rowNe hI6.out.bs (by decide)) (hI6.out.own.rowNe hI6.out.bn (by decide))
                                        exact AllReadyIn.nil
                                      exact AllReadyIn.nil
                                    exact AllReadyIn.nil
                                  refine AllReadyIn.cons rfl (fun K hK => ?_) ?_
                                  · have hK' := hK; clear hK; have hK := hK'; clear hK'
                                    go_simp
                                    refine hK _ _ ?_
                                    clear hK K
                                    refine wpAnyIn_ready (rs := [0]) (by kernel_rfl) (by simp) ?_
                                    refine AllReadyIn.cons rfl (fun K hK => ?_) ?_
                                    · have hK' := hK; clear hK; have hK := hK'; clear hK'
                                      go_simp
                                      refine hK _ _ ?_
                                      clear hK K
                                      refine wpAnyIn_ready (rs := [7]) (by kernel_rfl) (by simp) ?_
                                      refine AllReadyIn.cons rfl (fun K hK => ?_) ?_
                                      · have hK' := hK; clear hK; have hK := hK'; clear hK'
                                        obtain ⟨A3, c3, W3, hrun, o3, g3⟩ := OwnE.push2 (W := w6.drew) (hI6.out.keep (Below.refl _ _).drew).own (by have := hI6.out.small; omega) (x0, x1, x2) 1
                                        go_simp
                                        have hrun' := (show (appSem #[25, 25] 25 #[.slice A1 n1 c1, .slice (some ⟨w6.heap.size, 0, none⟩) 1 1]).run Tryd.prog ((w6.alloc (.cells #[.int .i64 x0, .int .i64 x1, .int .i64 x2] 56)).drew) = _ from hrun)
                                        rw [hrun']
                                        go_simp
                                        have hX := Lib.hid ((hI6.out.keep (Below.refl _ _).drew).pushed o3 g3 hn1 hb9w hbq0)
                                        have x9 := hX.out.1.cell
                                        have y9 := hX.out.1.frozen
                                        refine hK _ _ ?_
                                        clear hK K
                                        refine wpAnyIn_ready (rs := [8]) (by kernel_rfl) (by simp) ?_
                                        refine AllReadyIn.cons rfl (fun K hK => ?_) ?_
                                        · have hK' := hK; clear hK; have hK := hK'; clear hK'
                                          go_simp
                                          refine hK _ _ ?_
                                          clear hK K
                                          refine wpAnyIn_done (by kernel_rfl) ?_ _
                                          gi_wp2
                                          exact hfin.out b9 w6.drew W3 A3 c3 _ ((((Below.refl _ _).drew.trans b5).trans (b6.mono b5.size)).drew) (fun j o hj ho => hI6.out.own.rowCells j o hj ho) g3 hX.out.2 hI6.out.bs hI6.out.bn (hI6.out.own.rowNe hI6.out.bs (by decide)) (hI6.out.own.rowNe hI6.out.bn (by decide))
                                        exact AllReadyIn.nil
                                      exact AllReadyIn.nil
                                    exact AllReadyIn.nil
                                  exact AllReadyIn.nil
                                exact AllReadyIn.nil
                              exact AllReadyIn.nil
                            exact AllReadyIn.nil
                          exact AllReadyIn.nil
                        refine AllReadyIn.cons rfl (fun K hK => ?_) ?_
                        · have hK' := hK; clear hK; have hK := hK'; clear hK'
                          go_simp
                          refine hK _ _ ?_
                          clear hK K
                          refine wpAnyIn_ready (rs := [14]) (by kernel_rfl) (by simp) ?_
                          refine AllReadyIn.cons rfl (fun K hK => ?_) ?_
                          · have hK' := hK; clear hK; have hK := hK'; clear hK'
                            go_simp
                            refine hK _ _ ?_
                            clear hK K
                            refine wpAnyIn_ready (rs := [20]) (by kernel_rfl) (by simp) ?_
                            refine AllReadyIn.cons rfl (fun K hK => ?_) ?_
                            · have hK' := hK; clear hK; have hK := hK'; clear hK'
                              go_simp
                              gi_wp2_with (refine ⟨trivial, ?_⟩; gi_at_call 27; refine (callsIn_wide.2 (contains_any A1 n1 c1 (candF l pre) (x0, x1, x2) _ hI5.out.own.es (by have := hI5.out.small; omega))).mono ?_; rintro e w6 ⟨rfl, b6⟩; rw [hin])
                              have hI6 := Lib.hid (hI5.out.keep b6)
                              have m3 := hI6.out.box.cell
                              have m9 := hI6.out.ob.cell
                              have n9 := hI6.out.ob.frozen
                              have l9 := hI6.out.ob.lt
                              have l3 := hI6.out.box.lt
                              have t0 := (b6.cell (p := ⟨bx, o + n * 3, none⟩) hbx5).trans u0
                              have t1 := (b6.cell (p := ⟨bx, o + n * 3 + 1, none⟩) hbx5).trans u1
                              have t2 := (b6.cell (p := ⟨bx, o + n * 3 + 2, none⟩) hbx5).trans u2
                              refine wpAnyIn_take (i := 21) (v := ?_) rfl rfl (by kernel_rfl) (by kernel_rfl) (by kernel_rfl) (fun _ _ _ h => h) ⟨Or.inl ⟨by rfl, by intro w; go_simp; first | done | with_reducible rfl⟩, fun _ => rfl⟩ ?_
                              simp only [List.getElem_toArray, List.getElem_cons_succ, List.getElem_cons_zero, Act.put, List.setIfInBounds_toArray, List.set_cons_zero, List.set_cons_succ]
                              refine wpAnyIn_take (i := 22) (v := ?_) rfl rfl (by kernel_rfl) (by kernel_rfl) (by kernel_rfl) (fun _ _ _ h => h) ⟨Or.inl ⟨by rfl, by intro w; go_simp; first | done | with_reducible rfl⟩, fun _ => rfl⟩ ?_
                              simp only [List.getElem_toArray, List.getElem_cons_succ, List.getElem_cons_zero, Act.put, List.setIfInBounds_toArray, List.set_cons_zero, List.set_cons_succ]
                              refine wpAnyIn_done (by kernel_rfl) ?_ _
                              gi_wp2
                              refine wpIn_region_any (by kernel_rfl) ?_
                              try (change wpAnyIn _ _ _ _ _ _ _ _ _ (World.drew _))
                              refine wpAnyIn_round (l := l') rfl (by intro i o hi c; revert hi; exact noDefer_spec (by kernel_rfl) i o c) _ _ _ _ ?_
                              refine wpAnyIn_take (i := 1) (v := ?_) rfl rfl (by kernel_rfl) (by kernel_rfl) (by kernel_rfl) (fun _ _ _ h => h) ⟨Or.inl ⟨by rfl, by intro w; go_simp; first | done | with_reducible rfl⟩, fun _ => rfl⟩ ?_
                              simp only [List.getElem_toArray, List.getElem_cons_succ, List.getElem_cons_zero, Act.put, List.setIfInBounds_toArray, List.set_cons_zero, List.set_cons_succ]
                              refine wpAnyIn_ready (rs := [0, 2]) (by kernel_rfl) (by simp) ?_
                              refine AllReadyIn.cons rfl (fun K hK => ?_) ?_
                              · have hK' := hK; clear hK; have hK := hK'; clear hK'
                                go_simp
                                refine hK _ _ ?_
                                clear hK K
                                refine wpAnyIn_ready (rs := [2]) (by kernel_rfl) (by simp) ?_
                                refine AllReadyIn.cons rfl (fun K hK => ?_) ?_
                                · have hK' := hK; clear hK; have hK := hK'; clear hK'
                                  go_simp
                                  refine hK _ _ ?_
                                  clear hK K
                                  refine wpAnyIn_take (i := 3) (v := ?_) rfl rfl (by kernel_rfl) (by kernel_rfl) (by kernel_rfl) (fun _ _ _ h => h) ⟨Or.inl ⟨by rfl, by intro w; go_simp; first | done | with_reducible rfl⟩, fun _ => rfl⟩ ?_
                                  simp only [List.getElem_toArray, List.getElem_cons_succ, List.getElem_cons_zero, Act.put, List.setIfInBounds_toArray, List.set_cons_zero, List.set_cons_succ]
                                  refine wpAnyIn_take (i := 4) (v := ?_) rfl rfl (by kernel_rfl) (by kernel_rfl) (by kernel_rfl) (fun _ _ _ h => h) ⟨Or.inl ⟨by rfl, by intro w; go_simp; first | done | with_reducible rfl⟩, fun _ => rfl⟩ ?_
                                  simp only [List.getElem_toArray, List.getElem_cons_succ, List.getElem_cons_zero, Act.put, List.setIfInBounds_toArray, List.set_cons_zero, List.set_cons_succ]
                                  refine wpAnyIn_ready (rs := [5]) (by kernel_rfl) (by simp) ?_
                                  refine AllReadyIn.cons rfl (fun K hK => ?_) ?_
                                  · have hK' := hK; clear hK; have hK := hK'; clear hK'
                                    go_simp
                                    refine hK _ _ ?_
                                    clear hK K
                                    refine wpAnyIn_ready (rs := [6]) (by kernel_rfl) (by simp) ?_
                                    refine AllReadyIn.cons rfl (fun K hK => ?_) ?_
                                    · have hK' := hK; clear hK; have hK := hK'; clear hK'
                                      go_simp
                                      refine hK _ _ ?_
                                      clear hK K
                                      refine wpAnyIn_ready (rs := [7]) (by kernel_rfl) (by simp) ?_
                                      refine AllReadyIn.cons rfl (fun K hK => ?_) ?_
                                      · have hK' := hK; clear hK; have hK := hK'; clear hK'
                                        obtain ⟨A3, c3, W3, hrun, o3, g3⟩ := OwnE.push2 (W := w6.drew) (hI6.out.keep (Below.refl _ _).drew).own (by have := hI6.out.small; omega) (x0, x1, x2) 1
                                        go_simp
                                        have hrun' := (show (appSem #[25, 25] 25 #[.slice A1 n1 c1, .slice (some ⟨w6.heap.size, 0, none⟩) 1 1]).run Tryd.prog ((w6.alloc (.cells #[.int .i64 x0, .int .i64 x1, .int .i64 x2] 56)).drew) = _ from hrun)
                                        rw [hrun']
                                        go_simp
                                        have hX := Lib.hid ((hI6.out.keep (Below.refl _ _).drew).pushed o3 g3 hn1 hb9w hbq0)
                                        have x9 := hX.out.1.cell
                                        have y9 := hX.out.1.frozen
                                        refine hK _ _ ?_
                                        clear hK K
                                        refine wpAnyIn_ready (rs := [8]) (by kernel_rfl) (by simp) ?_
                                        refine AllReadyIn.cons rfl (fun K hK => ?_) ?_
                                        · have hK' := hK; clear hK; have hK := hK'; clear hK'
                                          go_simp
                                          refine hK _ _ ?_
                                          clear hK K
                                          refine wpAnyIn_done (by kernel_rfl) ?_ _
                                          gi_wp2
                                          exact hfin.out b9 w6.drew W3 A3 c3 _ ((((Below.refl _ _).drew.trans b5).trans (b6.mono b5.size)).drew) (fun j o hj ho => hI6.out.own.rowCells j o hj ho) g3 hX.out.2 hI6.out.bs hI6.out.bn (hI6.out.own.rowNe hI6.out.bs (by decide)) (hI6.out.own.rowNe hI6.out.bn (by decide))
                                        exact AllReadyIn.nil
                                      exact AllReadyIn.nil
                                    exact AllReadyIn.nil
                                  exact AllReadyIn.nil
                                exact AllReadyIn.nil
                              refine AllReadyIn.cons rfl (fun K hK => ?_) ?_
                              · have hK' := hK; clear hK; have hK := hK'; clear hK'
                                go_simp
                                refine hK _ _ ?_
                                clear hK K
                                refine wpAnyIn_take (i := 3) (v := ?_) rfl rfl (by kernel_rfl) (by kernel_rfl) (by kernel_rfl) (fun _ _ _ h => h) ⟨Or.inl ⟨by rfl, by intro w; go_simp; first | done | with_reducible rfl⟩, fun _ => rfl⟩ ?_
                                simp only [List.getElem_toArray, List.getElem_cons_succ, List.getElem_cons_zero, Act.put, List.setIfInBounds_toArray, List.set_cons_zero, List.set_cons_succ]
                                refine wpAnyIn_take (i := 4) (v := ?_) rfl rfl (by kernel_rfl) (by kernel_rfl) (by kernel_rfl) (fun _ _ _ h => h) ⟨Or.inl ⟨by rfl, by intro w; go_simp; first | done | with_reducible rfl⟩, fun _ => rfl⟩ ?_
                                simp only [List.getElem_toArray, List.getElem_cons_succ, List.getElem_cons_zero, Act.put, List.setIfInBounds_toArray, List.set_cons_zero, List.set_cons_succ]
                                refine wpAnyIn_ready (rs := [0, 5]) (by kernel_rfl) (by simp) ?_
                                refine AllReadyIn.cons rfl (fun K hK => ?_) ?_
                                · have hK' := hK; clear hK; have hK := hK'; clear hK'
                                  go_simp
                                  refine hK _ _ ?_
                                  clear hK K
                                  refine wpAnyIn_ready (rs := [5]) (by kernel_rfl) (by simp) ?_
                                  refine AllReadyIn.cons rfl (fun K hK => ?_) ?_
                                  · have hK' := hK; clear hK; have hK := hK'; clear hK'
                                    go_simp
                                    refine hK _ _ ?_
                                    clear hK K
                                    refine wpAnyIn_ready (rs := [6]) (by kernel_rfl) (by simp) ?_
                                    refine AllReadyIn.cons rfl (fun K hK => ?_) ?_
                                    · have hK' := hK; clear hK; have hK := hK'; clear hK'
                                      go_simp
                                      refine hK _ _ ?_
                                      clear hK K
                                      refine wpAnyIn_ready (rs := [7]) (by kernel_rfl) (by simp) ?_
                                      refine AllReadyIn.cons rfl (fun K hK => ?_) ?_
                                      · have hK' := hK; clear hK; have hK := hK'; clear hK'
                                        obtain ⟨A3, c3, W3, hrun, o3, g3⟩ := OwnE.push2 (W := w6.drew) (hI6.out.keep (Below.refl _ _).drew).own (by have := hI6.out.small; omega) (x0, x1, x2) 1
                                        go_simp
                                        have hrun' := (show (appSem #[25, 25] 25 #[.slice A1 n1 c1, .slice (some ⟨w6.heap.size, 0, none⟩) 1 1]).run Tryd.prog ((w6.alloc (.cells #[.int .i64 x0, .int .i64 x1, .int .i64 x2] 56)).drew) = _ from hrun)
                                        rw [hrun']
                                        go_simp
                                        have hX := Lib.hid ((hI6.out.keep (Below.refl _ _).drew).pushed o3 g3 hn1 hb9w hbq0)
                                        have x9 := hX.out.1.cell
                                        have y9 := hX.out.1.frozen
                                        refine hK _ _ ?_
                                        clear hK K
                                        refine wpAnyIn_ready (rs := [8]) (by kernel_rfl) (by simp) ?_
                                        refine AllReadyIn.cons rfl (fun K hK => ?_) ?_
                                        · have hK' := hK; clear hK; have hK := hK'; clear hK'
                                          go_simp
                                          refine hK _ _ ?_
                                          clear hK K
                                          refine wpAnyIn_done (by kernel_rfl) ?_ _
                                          gi_wp2
                                          exact hfin.out b9 w6.drew W3 A3 c3 _ ((((Below.refl _ _).drew.trans b5).trans (b6.mono b5.size)).drew) (fun j o hj ho => hI6.out.own.rowCells j o hj ho) g3 hX.out.2 hI6.out.bs hI6.out.bn (hI6.out.own.rowNe hI6.out.bs (by decide)) (hI6.out.own.rowNe hI6.out.bn (by decide))
                                        exact AllReadyIn.nil
                                      exact AllReadyIn.nil
                                    exact AllReadyIn.nil
                                  exact AllReadyIn.nil
                                refine AllReadyIn.cons rfl (fun K hK => ?_) ?_
                                · have hK' := hK; clear hK; have hK := hK'; clear hK'
                                  go_simp
                                  refine hK _ _ ?_
                                  clear hK K
                                  refine wpAnyIn_ready (rs := [0, 6]) (by kernel_rfl) (by simp) ?_
                                  refine AllReadyIn.cons rfl (fun K hK => ?_) ?_
                                  · have hK' := hK; clear hK; have hK := hK'; clear hK'
                                    go_simp
                                    refine hK _ _ ?_
                                    clear hK K
                                    refine wpAnyIn_ready (rs := [6]) (by kernel_rfl) (by simp) ?_
                                    refine AllReadyIn.cons rfl (fun K hK => ?_) ?_
                                    · have hK' := hK; clear hK; have hK := hK'; clear hK'
                                      go_simp
                                      refine hK _ _ ?_
                                      clear hK K
                                      refine wpAnyIn_ready (rs := [7]) (by kernel_rfl) (by simp) ?_
                                      refine AllReadyIn.cons rfl (fun K hK => ?_) ?_
                                      · have hK' := hK; clear hK; have hK := hK'; clear hK'
                                        obtain ⟨A3, c3, W3, hrun, o3, g3⟩ := OwnE.push2 (W := w6.drew) (hI6.out.keep (Below.refl _ _).drew).own (by have := hI6.out.small; omega) (x0, x1, x2) 1
                                        go_simp
                                        have hrun' := (show (appSem #[25, 25] 25 #[.slice A1 n1 c1, .slice (some ⟨w6.heap.size, 0, none⟩) 1 1]).run Tryd.prog ((w6.alloc (.cells #[.int .i64 x0, .int .i64 x1, .int .i64 x2] 56)).drew) = _ from hrun)
                                        rw [hrun']
                                        go_simp
                                        have hX := Lib.hid ((hI6.out.keep (Below.refl _ _).drew).pushed o3 g3 hn1 hb9w hbq0)
                                        have x9 := hX.out.1.cell
                                        have y9 := hX.out.1.frozen
                                        refine hK _ _ ?_
                                        clear hK K
                                        refine wpAnyIn_ready (rs := [8]) (by kernel_rfl) (by simp) ?_
                                        refine AllReadyIn.cons rfl (fun K hK => ?_) ?_
                                        · have hK' := hK; clear hK; have hK := hK'; clear hK'
                                          go_simp
                                          refine hK _ _ ?_
                                          clear hK K
                                          refine wpAnyIn_done (by kernel_rfl) ?_ _
                                          gi_wp2
                                          exact hfin.out b9 w6.drew W3 A3 c3 _ ((((Below.refl _ _).drew.trans b5).trans (b6.mono b5.size)).drew) (fun j o hj ho => hI6.out.own.rowCells j o hj ho) g3 hX.out.2 hI6.out.bs hI6.out.bn (hI6.out.own.rowNe hI6.out.bs (by decide)) (hI6.out.own.rowNe hI6.out.bn (by decide))
                                        exact AllReadyIn.nil
                                      exact AllReadyIn.nil
                                    exact AllReadyIn.nil
                                  refine AllReadyIn.cons rfl (fun K hK => ?_) ?_
                                  · have hK' := hK; clear hK; have hK := hK'; clear hK'
                                    go_simp
                                    refine hK _ _ ?_
                                    clear hK K
                                    refine wpAnyIn_ready (rs := [0]) (by kernel_rfl) (by simp) ?_
                                    refine AllReadyIn.cons rfl (fun K hK => ?_) ?_
                                    · have hK' := hK; clear hK; have hK := hK'; clear hK'
                                      go_simp
                                      refine hK _ _ ?_
                                      clear hK K
                                      refine wpAnyIn_ready (rs := [7]) (by kernel_rfl) (by simp) ?_
                                      refine AllReadyIn.cons rfl (fun K hK => ?_) ?_
                                      · have hK' := hK; clear hK; have hK := hK'; clear hK'
                                        obtain ⟨A3, c3, W3, hrun, o3, g3⟩ := OwnE.push2 (W := w6.drew) (hI6.out.keep (Below.refl _ _).drew).own (by have := hI6.out.small; omega) (x0, x1, x2) 1
                                        go_simp
                                        have hrun' := (show (appSem #[25, 25] 25 #[.slice A1 n1 c1, .slice (some ⟨w6.heap.size, 0, none⟩) 1 1]).run Tryd.prog ((w6.alloc (.cells #[.int .i64 x0, .int .i64 x1, .int .i64 x2] 56)).drew) = _ from hrun)
                                        rw [hrun']
                                        go_simp
                                        have hX := Lib.hid ((hI6.out.keep (Below.refl _ _).drew).pushed o3 g3 hn1 hb9w hbq0)
                                        have x9 := hX.out.1.cell
                                        have y9 := hX.out.1.frozen
                                        refine hK _ _ ?_
                                        clear hK K
                                        refine wpAnyIn_ready (rs := [8]) (by kernel_rfl) (by simp) ?_
                                        refine AllReadyIn.cons rfl (fun K hK => ?_) ?_
                                        · have hK' := hK; clear hK; have hK := hK'; clear hK'
                                          go_simp
                                          refine hK _ _ ?_
                                          clear hK K
                                          refine wpAnyIn_done (by kernel_rfl) ?_ _
                                          gi_wp2
                                          exact hfin.out b9 w6.drew W3 A3 c3 _ ((((Below.refl _ _).drew.trans b5).trans (b6.mono b5.size)).drew) (fun j o hj ho => hI6.out.own.rowCells j o hj ho) g3 hX.out.2 hI6.out.bs hI6.out.bn (hI6.out.own.rowNe hI6.out.bs (by decide)) (hI6.out.own.rowNe hI6.out.bn (by decide))
                                        exact AllReadyIn.nil
                                      exact AllReadyIn.nil
                                    exact AllReadyIn.nil
                                  exact AllReadyIn.nil
                                exact AllReadyIn.nil
                              exact AllReadyIn.nil
                            exact AllReadyIn.nil
                          exact AllReadyIn.nil
                        exact AllReadyIn.nil
                      exact AllReadyIn.nil
                    exact AllReadyIn.nil
                  exact AllReadyIn.nil
                exact AllReadyIn.nil
              exact AllReadyIn.nil
          · have dbg : (((beg l x.2 : Nat) : Int) == (n : Int)) = false := beq_false_of_ne (by omega)
            have hc := cand_no (out := candF l pre) (m := x.2) (by rw [hl1]; exact hbg)
            have hfin : ∀ W', Below W.heap.size W W' → LM w (.slice A n c) b9 q (head l) k A1 n1 c1 (candF l pre) W' → KeepsFrom W4.heap.size W W' ∧ KB (q + 1) q W W' ∧ ∃ A1 n1 c1, LM w (.slice A n c) b9 q (head l) k A1 n1 c1 (candF l (pre ++ [x])) W' := fun W' hb hM => by
              refine ⟨(keeps_below hb).from _, ⟨hb.block _ (by omega), hb.block _ (by omega)⟩, A1, n1, c1, ?_⟩
              rw [candF_snoc, hc]; exact hM
            replace hfin := Lib.hid hfin
            clear hc hbg
            gi_wp2
            refine wpIn_region_any (by kernel_rfl) ?_
            try (change wpAnyIn _ _ _ _ _ _ _ _ _ (World.drew _))
            refine wpAnyIn_round (l := l') rfl (by intro i o hi c; revert hi; exact noDefer_spec (by kernel_rfl) i o c) _ _ _ _ ?_
            refine wpAnyIn_take (i := 0) (v := ?_) rfl rfl (by kernel_rfl) (by kernel_rfl) (by kernel_rfl) (fun _ _ _ h => h) ⟨Or.inl ⟨by rfl, by intro w; go_simp; first | done | with_reducible rfl⟩, fun _ => rfl⟩ ?_
            simp only [List.getElem_toArray, List.getElem_cons_succ, List.getElem_cons_zero, Act.put, List.setIfInBounds_toArray, List.set_cons_zero, List.set_cons_succ]
            refine wpAnyIn_take (i := 1) (v := ?_) rfl rfl (by kernel_rfl) (by kernel_rfl) (by kernel_rfl) (fun _ _ _ h => h) ⟨Or.inl ⟨by rfl, by intro w; go_simp; first | done | with_reducible rfl⟩, fun _ => rfl⟩ ?_
            simp only [List.getElem_toArray, List.getElem_cons_succ, List.getElem_cons_zero, Act.put, List.setIfInBounds_toArray, List.set_cons_zero, List.set_cons_succ]
            refine wpAnyIn_ready (rs := [2]) (by kernel_rfl) (by simp) ?_
            refine AllReadyIn.cons rfl (fun K hK => ?_) ?_
            · have hK' := hK; clear hK; have hK := hK'; clear hK'
              go_simp
              refine hK _ _ ?_
              clear hK K
              refine wpAnyIn_take (i := 3) (v := ?_) rfl rfl (by kernel_rfl) (by kernel_rfl) (by kernel_rfl) (fun _ _ _ h => h) ⟨Or.inl ⟨by rfl, by intro w; go_simp; first | done | with_reducible rfl⟩, fun _ => rfl⟩ ?_
              simp only [List.getElem_toArray, List.getElem_cons_succ, List.getElem_cons_zero, Act.put, List.setIfInBounds_toArray, List.set_cons_zero, List.set_cons_succ]
              refine wpAnyIn_take (i := 4) (v := ?_) rfl rfl (by kernel_rfl) (by kernel_rfl) (by kernel_rfl) (fun _ _ _ h => h) ⟨Or.inl ⟨by rfl, by intro w; go_simp; first | done | with_reducible rfl⟩, fun _ => rfl⟩ ?_
              simp only [List.getElem_toArray, List.getElem_cons_succ, List.getElem_cons_zero, Act.put, List.setIfInBounds_toArray, List.set_cons_zero, List.set_cons_succ]
              refine wpAnyIn_take (i := 5) (v := ?_) rfl rfl (by kernel_rfl) (by kernel_rfl) (by kernel_rfl) (fun _ _ _ h => h) ⟨Or.inl ⟨by rfl, by intro w; go_simp; first | done | with_reducible rfl⟩, fun _ => rfl⟩ ?_
              simp only [List.getElem_toArray, List.getElem_cons_succ, List.getElem_cons_zero, Act.put, List.setIfInBounds_toArray, List.set_cons_zero, List.set_cons_succ]
              refine wpAnyIn_take (i := 7) (v := ?_) rfl rfl (by kernel_rfl) (by kernel_rfl) (by kernel_rfl) (fun _ _ _ h => h) ⟨Or.inl ⟨by rfl, by intro w; go_simp; first | done | with_reducible rfl⟩, fun _ => rfl⟩ ?_
              simp only [List.getElem_toArray, List.getElem_cons_succ, List.getElem_cons_zero, Act.put, List.setIfInBounds_toArray, List.set_cons_zero, List.set_cons_succ]
              refine wpAnyIn_ready (rs := [6, 9]) (by kernel_rfl) (by simp) ?_
              refine AllReadyIn.cons rfl (fun K hK => ?_) ?_
              · have hK' := hK; clear hK; have hK := hK'; clear hK'
                go_simp
                refine hK _ _ ?_
                clear hK K
                refine wpAnyIn_ready (rs := [8, 9]) (by kernel_rfl) (by simp) ?_
                refine AllReadyIn.cons rfl (fun K hK => ?_) ?_
                · have hK' := hK; clear hK; have hK := hK'; clear hK'
                  go_simp
                  gi_wp2_with (refine ⟨trivial, ?_⟩; gi_at_call 26; refine (callsIn_wide.2 (begins_any _ _ n c n2 c2 l x.2 _ E1 E2 hn hm)).mono ?_; rintro e w5 ⟨rfl, b5⟩)
                  have hI5 := Lib.hid (hId.out.keep b5)
                  have E1x : ES w5 A n l := SL.keep E1 b5
                  have d3 := hI5.out.box.cell
                  have d9 := hI5.out.ob.cell
                  have g9 := hI5.out.ob.frozen
                  refine wpAnyIn_ready (rs := [9]) (by kernel_rfl) (by simp) ?_
                  refine AllReadyIn.cons rfl (fun K hK => ?_) ?_
                  · have hK' := hK; clear hK; have hK := hK'; clear hK'
                    go_simp
                    refine hK _ _ ?_
                    clear hK K
                    refine wpAnyIn_take (i := 10) (v := ?_) rfl rfl (by kernel_rfl) (by kernel_rfl) (by kernel_rfl) (fun _ _ _ h => h) ⟨Or.inl ⟨by rfl, by intro w; go_simp; first | done | with_reducible rfl⟩, fun _ => rfl⟩ ?_
                    simp only [List.getElem_toArray, List.getElem_cons_succ, List.getElem_cons_zero, Act.put, List.setIfInBounds_toArray, List.set_cons_zero, List.set_cons_succ]
                    refine wpAnyIn_take (i := 11) (v := ?_) rfl rfl (by kernel_rfl) (by kernel_rfl) (by kernel_rfl) (fun _ _ _ h => h) ⟨Or.inl ⟨by rfl, by intro w; go_simp; first | done | with_reducible rfl⟩, fun _ => rfl⟩ ?_
                    simp only [List.getElem_toArray, List.getElem_cons_succ, List.getElem_cons_zero, Act.put, List.setIfInBounds_toArray, List.set_cons_zero, List.set_cons_succ]
                    refine wpAnyIn_take (i := 12) (v := ?_) rfl rfl (by kernel_rfl) (by kernel_rfl) (by kernel_rfl) (fun _ _ _ h => h) ⟨Or.inl ⟨by rfl, by intro w; go_simp; first | done | with_reducible rfl⟩, fun _ => rfl⟩ ?_
                    simp only [List.getElem_toArray, List.getElem_cons_succ, List.getElem_cons_zero, Act.put, List.setIfInBounds_toArray, List.set_cons_zero, List.set_cons_succ]
                    refine wpAnyIn_take (i := 13) (v := ?_) rfl rfl (by kernel_rfl) (by kernel_rfl) (by kernel_rfl) (fun _ _ _ h => h) ⟨Or.inl ⟨by rfl, by intro w; go_simp; first | done | with_reducible rfl⟩, fun _ => rfl⟩ ?_
                    simp only [List.getElem_toArray, List.getElem_cons_succ, List.getElem_cons_zero, Act.put, List.setIfInBounds_toArray, List.set_cons_zero, List.set_cons_succ]
                    refine wpAnyIn_take (i := 14) (v := undef) rfl rfl (by kernel_rfl) (by kernel_rfl) (by kernel_rfl) (fun _ _ _ h => h) ⟨Or.inr ⟨by rfl, rfl⟩, fun _ => rfl⟩ ?_
                    simp only [List.getElem_toArray, List.getElem_cons_succ, List.getElem_cons_zero, Act.put, List.setIfInBounds_toArray, List.set_cons_zero, List.set_cons_succ]
                    refine wpAnyIn_take (i := 15) (v := undef) rfl rfl (by kernel_rfl) (by kernel_rfl) (by kernel_rfl) (fun _ _ _ h => h) ⟨Or.inr ⟨by rfl, rfl⟩, fun _ => rfl⟩ ?_
                    simp only [List.getElem_toArray, List.getElem_cons_succ, List.getElem_cons_zero, Act.put, List.setIfInBounds_toArray, List.set_cons_zero, List.set_cons_succ]
                    refine wpAnyIn_take (i := 16) (v := undef) rfl rfl (by kernel_rfl) (by kernel_rfl) (by kernel_rfl) (fun _ _ _ h => h) ⟨Or.inr ⟨by rfl, rfl⟩, fun _ => rfl⟩ ?_
                    simp only [List.getElem_toArray, List.getElem_cons_succ, List.getElem_cons_zero, Act.put, List.setIfInBounds_toArray, List.set_cons_zero, List.set_cons_succ]
                    refine wpAnyIn_take (i := 17) (v := undef) rfl rfl (by kernel_rfl) (by kernel_rfl) (by kernel_rfl) (fun _ _ _ h => h) ⟨Or.inr ⟨by rfl, rfl⟩, fun _ => rfl⟩ ?_
                    simp only [List.getElem_toArray, List.getElem_cons_succ, List.getElem_cons_zero, Act.put, List.setIfInBounds_toArray, List.set_cons_zero, List.set_cons_succ]
                    refine wpAnyIn_take (i := 18) (v := undef) rfl rfl (by kernel_rfl) (by kernel_rfl) (by kernel_rfl) (fun _ _ _ h => h) ⟨Or.inr ⟨by rfl, rfl⟩, fun _ => rfl⟩ ?_
                    simp only [List.getElem_toArray, List.getElem_cons_succ, List.getElem_cons_zero, Act.put, List.setIfInBounds_toArray, List.set_cons_zero, List.set_cons_succ]
                    refine wpAnyIn_take (i := 19) (v := undef) rfl rfl (by kernel_rfl) (by kernel_rfl) (by kernel_rfl) (fun _ _ _ h => h) ⟨Or.inr ⟨by rfl, rfl⟩, fun _ => rfl⟩ ?_
                    simp only [List.getElem_toArray, List.getElem_cons_succ, List.getElem_cons_zero, Act.put, List.setIfInBounds_toArray, List.set_cons_zero, List.set_cons_succ]
                    refine wpAnyIn_ready (rs := [20]) (by kernel_rfl) (by simp) ?_
                    refine AllReadyIn.cons rfl (fun K hK => ?_) ?_
                    · have hK' := hK; clear hK; have hK := hK'; clear hK'
                      go_simp
                      first | refine hK _ _ ?_ | refine ⟨by intros; trivial, hK _ _ ?_⟩
                      clear hK K
                      refine wpAnyIn_take (i := 21) (v := undef) rfl rfl (by kernel_rfl) (by kernel_rfl) (by kernel_rfl) (fun _ _ _ h => h) ⟨Or.inr ⟨by rfl, rfl⟩, fun _ => rfl⟩ ?_
                      simp only [List.getElem_toArray, List.getElem_cons_succ, List.getElem_cons_zero, Act.put, List.setIfInBounds_toArray, List.set_cons_zero, List.set_cons_succ]
                      refine wpAnyIn_take (i := 22) (v := ?_) rfl rfl (by kernel_rfl) (by kernel_rfl) (by kernel_rfl) (fun _ _ _ h => h) ⟨Or.inl ⟨by rfl, by intro w; go_simp; first | done | with_reducible rfl⟩, fun _ => rfl⟩ ?_
                      simp only [List.getElem_toArray, List.getElem_cons_succ, List.getElem_cons_zero, Act.put, List.setIfInBounds_toArray, List.set_cons_zero, List.set_cons_succ]
                      refine wpAnyIn_done (by kernel_rfl) ?_ _
                      gi_wp2
                      exact hfin.out _ ((Below.refl _ _).drew.trans b5) hI5.out
                    exact AllReadyIn.nil
                  exact AllReadyIn.nil
                refine AllReadyIn.cons rfl (fun K hK => ?_) ?_
                · have hK' := hK; clear hK; have hK := hK'; clear hK'
                  go_simp
                  refine hK _ _ ?_
                  clear hK K
                  refine wpAnyIn_take (i := 10) (v := ?_) rfl rfl (by kernel_rfl) (by kernel_rfl) (by kernel_rfl) (fun _ _ _ h => h) ⟨Or.inl ⟨by rfl, by intro w; go_simp; first | done | with_reducible rfl⟩, fun _ => rfl⟩ ?_
                  simp only [List.getElem_toArray, List.getElem_cons_succ, List.getElem_cons_zero, Act.put, List.setIfInBounds_toArray, List.set_cons_zero, List.set_cons_succ]
                  refine wpAnyIn_ready (rs := [8]) (by kernel_rfl) (by simp) ?_
                  refine AllReadyIn.cons rfl (fun K hK => ?_) ?_
                  · have hK' := hK; clear hK; have hK := hK'; clear hK'
                    go_simp
                    gi_wp2_with (refine ⟨trivial, ?_⟩; gi_at_call 26; refine (callsIn_wide.2 (begins_any _ _ n c n2 c2 l x.2 _ E1 E2 hn hm)).mono ?_; rintro e w5 ⟨rfl, b5⟩)
                    have hI5 := Lib.hid (hId.out.keep b5)
                    have E1x : ES w5 A n l := SL.keep E1 b5
                    have d3 := hI5.out.box.cell
                    have d9 := hI5.out.ob.cell
                    have g9 := hI5.out.ob.frozen
                    refine wpAnyIn_take (i := 11) (v := ?_) rfl rfl (by kernel_rfl) (by kernel_rfl) (by kernel_rfl) (fun _ _ _ h => h) ⟨Or.inl ⟨by rfl, by intro w; go_simp; first | done | with_reducible rfl⟩, fun _ => rfl⟩ ?_
                    simp only [List.getElem_toArray, List.getElem_cons_succ, List.getElem_cons_zero, Act.put, List.setIfInBounds_toArray, List.set_cons_zero, List.set_cons_succ]
                    refine wpAnyIn_take (i := 12) (v := ?_) rfl rfl (by kernel_rfl) (by kernel_rfl) (by kernel_rfl) (fun _ _ _ h => h) ⟨Or.inl ⟨by rfl, by intro w; go_simp; first | done | with_reducible rfl⟩, fun _ => rfl⟩ ?_
                    simp only [List.getElem_toArray, List.getElem_cons_succ, List.getElem_cons_zero, Act.put, List.setIfInBounds_toArray, List.set_cons_zero, List.set_cons_succ]
                    refine wpAnyIn_take (i := 13) (v := ?_) rfl rfl (by kernel_rfl) (by kernel_rfl) (by kernel_rfl) (fun _ _ _ h => h) ⟨Or.inl ⟨by rfl, by intro w; go_simp; first | done | with_reducible rfl⟩, fun _ => rfl⟩ ?_
                    simp only [List.getElem_toArray, List.getElem_cons_succ, List.getElem_cons_zero, Act.put, List.setIfInBounds_toArray, List.set_cons_zero, List.set_cons_succ]
                    refine wpAnyIn_take (i := 14) (v := undef) rfl rfl (by kernel_rfl) (by kernel_rfl) (by kernel_rfl) (fun _ _ _ h => h) ⟨Or.inr ⟨by rfl, rfl⟩, fun _ => rfl⟩ ?_
                    simp only [List.getElem_toArray, List.getElem_cons_succ, List.getElem_cons_zero, Act.put, List.setIfInBounds_toArray, List.set_cons_zero, List.set_cons_succ]
                    refine wpAnyIn_take (i := 15) (v := undef) rfl rfl (by kernel_rfl) (by kernel_rfl) (by kernel_rfl) (fun _ _ _ h => h) ⟨Or.inr ⟨by rfl, rfl⟩, fun _ => rfl⟩ ?_
                    simp only [List.getElem_toArray, List.getElem_cons_succ, List.getElem_cons_zero, Act.put, List.setIfInBounds_toArray, List.set_cons_zero, List.set_cons_succ]
                    refine wpAnyIn_take (i := 16) (v := undef) rfl rfl (by kernel_rfl) (by kernel_rfl) (by kernel_rfl) (fun _ _ _ h => h) ⟨Or.inr ⟨by rfl, rfl⟩, fun _ => rfl⟩ ?_
                    simp only [List.getElem_toArray, List.getElem_cons_succ, List.getElem_cons_zero, Act.put, List.setIfInBounds_toArray, List.set_cons_zero, List.set_cons_succ]
                    refine wpAnyIn_take (i := 17) (v := undef) rfl rfl (by kernel_rfl) (by kernel_rfl) (by kernel_rfl) (fun _ _ _ h => h) ⟨Or.inr ⟨by rfl, rfl⟩, fun _ => rfl⟩ ?_
                    simp only [List.getElem_toArray, List.getElem_cons_succ, List.getElem_cons_zero, Act.put, List.setIfInBounds_toArray, List.set_cons_zero, List.set_cons_succ]
                    refine wpAnyIn_take (i := 18) (v := undef) rfl rfl (by kernel_rfl) (by kernel_rfl) (by kernel_rfl) (fun _ _ _ h => h) ⟨Or.inr ⟨by rfl, rfl⟩, fun _ => rfl⟩ ?_
                    simp only [List.getElem_toArray, List.getElem_cons_succ, List.getElem_cons_zero, Act.put, List.setIfInBounds_toArray, List.set_cons_zero, List.set_cons_succ]
                    refine wpAnyIn_take (i := 19) (v := undef) rfl rfl (by kernel_rfl) (by kernel_rfl) (by kernel_rfl) (fun _ _ _ h => h) ⟨Or.inr ⟨by rfl, rfl⟩, fun _ => rfl⟩ ?_
                    simp only [List.getElem_toArray, List.getElem_cons_succ, List.getElem_cons_zero, Act.put, List.setIfInBounds_toArray, List.set_cons_zero, List.set_cons_succ]
                    refine wpAnyIn_ready (rs := [20]) (by kernel_rfl) (by simp) ?_
                    refine AllReadyIn.cons rfl (fun K hK => ?_) ?_
                    · have hK' := hK; clear hK; have hK := hK'; clear hK'
                      go_simp
                      first | refine hK _ _ ?_ | refine ⟨by intros; trivial, hK _ _ ?_⟩
                      clear hK K
                      refine wpAnyIn_take (i := 21) (v := undef) rfl rfl (by kernel_rfl) (by kernel_rfl) (by kernel_rfl) (fun _ _ _ h => h) ⟨Or.inr ⟨by rfl, rfl⟩, fun _ => rfl⟩ ?_
                      simp only [List.getElem_toArray, List.getElem_cons_succ, List.getElem_cons_zero, Act.put, List.setIfInBounds_toArray, List.set_cons_zero, List.set_cons_succ]
                      refine wpAnyIn_take (i := 22) (v := ?_) rfl rfl (by kernel_rfl) (by kernel_rfl) (by kernel_rfl) (fun _ _ _ h => h) ⟨Or.inl ⟨by rfl, by intro w; go_simp; first | done | with_reducible rfl⟩, fun _ => rfl⟩ ?_
                      simp only [List.getElem_toArray, List.getElem_cons_succ, List.getElem_cons_zero, Act.put, List.setIfInBounds_toArray, List.set_cons_zero, List.set_cons_succ]
                      refine wpAnyIn_done (by kernel_rfl) ?_ _
                      gi_wp2
                      exact hfin.out _ ((Below.refl _ _).drew.trans b5) hI5.out
                    exact AllReadyIn.nil
                  exact AllReadyIn.nil
                exact AllReadyIn.nil
              refine AllReadyIn.cons rfl (fun K hK => ?_) ?_
              · have hK' := hK; clear hK; have hK := hK'; clear hK'
                go_simp
                refine hK _ _ ?_
                clear hK K
                refine wpAnyIn_take (i := 10) (v := ?_) rfl rfl (by kernel_rfl) (by kernel_rfl) (by kernel_rfl) (fun _ _ _ h => h) ⟨Or.inl ⟨by rfl, by intro w; go_simp; first | done | with_reducible rfl⟩, fun _ => rfl⟩ ?_
                simp only [List.getElem_toArray, List.getElem_cons_succ, List.getElem_cons_zero, Act.put, List.setIfInBounds_toArray, List.set_cons_zero, List.set_cons_succ]
                refine wpAnyIn_ready (rs := [6]) (by kernel_rfl) (by simp) ?_
                refine AllReadyIn.cons rfl (fun K hK => ?_) ?_
                · have hK' := hK; clear hK; have hK := hK'; clear hK'
                  go_simp
                  refine hK _ _ ?_
                  clear hK K
                  refine wpAnyIn_ready (rs := [8]) (by kernel_rfl) (by simp) ?_
                  refine AllReadyIn.cons rfl (fun K hK => ?_) ?_
                  · have hK' := hK; clear hK; have hK := hK'; clear hK'
                    go_simp
                    gi_wp2_with (refine ⟨trivial, ?_⟩; gi_at_call 26; refine (callsIn_wide.2 (begins_any _ _ n c n2 c2 l x.2 _ E1 E2 hn hm)).mono ?_; rintro e w5 ⟨rfl, b5⟩)
                    have hI5 := Lib.hid (hId.out.keep b5)
                    have E1x : ES w5 A n l := SL.keep E1 b5
                    have d3 := hI5.out.box.cell
                    have d9 := hI5.out.ob.cell
                    have g9 := hI5.out.ob.frozen
                    refine wpAnyIn_take (i := 11) (v := ?_) rfl rfl (by kernel_rfl) (by kernel_rfl) (by kernel_rfl) (fun _ _ _ h => h) ⟨Or.inl ⟨by rfl, by intro w; go_simp; first | done | with_reducible rfl⟩, fun _ => rfl⟩ ?_
                    simp only [List.getElem_toArray, List.getElem_cons_succ, List.getElem_cons_zero, Act.put, List.setIfInBounds_toArray, List.set_cons_zero, List.set_cons_succ]
                    refine wpAnyIn_take (i := 12) (v := ?_) rfl rfl (by kernel_rfl) (by kernel_rfl) (by kernel_rfl) (fun _ _ _ h => h) ⟨Or.inl ⟨by rfl, by intro w; go_simp; first | done | with_reducible rfl⟩, fun _ => rfl⟩ ?_
                    simp only [List.getElem_toArray, List.getElem_cons_succ, List.getElem_cons_zero, Act.put, List.setIfInBounds_toArray, List.set_cons_zero, List.set_cons_succ]
                    refine wpAnyIn_take (i := 13) (v := ?_) rfl rfl (by kernel_rfl) (by kernel_rfl) (by kernel_rfl) (fun _ _ _ h => h) ⟨Or.inl ⟨by rfl, by intro w; go_simp; first | done | with_reducible rfl⟩, fun _ => rfl⟩ ?_
                    simp only [List.getElem_toArray, List.getElem_cons_succ, List.getElem_cons_zero, Act.put, List.setIfInBounds_toArray, List.set_cons_zero, List.set_cons_succ]
                    refine wpAnyIn_take (i := 14) (v := undef) rfl rfl (by kernel_rfl) (by kernel_rfl) (by kernel_rfl) (fun _ _ _ h => h) ⟨Or.inr ⟨by rfl, rfl⟩, fun _ => rfl⟩ ?_
                    simp only [List.getElem_toArray, List.getElem_cons_succ, List.getElem_cons_zero, Act.put, List.setIfInBounds_toArray, List.set_cons_zero, List.set_cons_succ]
                    refine wpAnyIn_take (i := 15) (v := undef) rfl rfl (by kernel_rfl) (by kernel_rfl) (by kernel_rfl) (fun _ _ _ h => h) ⟨Or.inr ⟨by rfl, rfl⟩, fun _ => rfl⟩ ?_
                    simp only [List.getElem_toArray, List.getElem_cons_succ, List.getElem_cons_zero, Act.put, List.setIfInBounds_toArray, List.set_cons_zero, List.set_cons_succ]
                    refine wpAnyIn_take (i := 16) (v := undef) rfl rfl (by kernel_rfl) (by kernel_rfl) (by kernel_rfl) (fun _ _ _ h => h) ⟨Or.inr ⟨by rfl, rfl⟩, fun _ => rfl⟩ ?_
                    simp only [List.getElem_toArray, List.getElem_cons_succ, List.getElem_cons_zero, Act.put, List.setIfInBounds_toArray, List.set_cons_zero, List.set_cons_succ]
                    refine wpAnyIn_take (i := 17) (v := undef) rfl rfl (by kernel_rfl) (by kernel_rfl) (by kernel_rfl) (fun _ _ _ h => h) ⟨Or.inr ⟨by rfl, rfl⟩, fun _ => rfl⟩ ?_
                    simp only [List.getElem_toArray, List.getElem_cons_succ, List.getElem_cons_zero, Act.put, List.setIfInBounds_toArray, List.set_cons_zero, List.set_cons_succ]
                    refine wpAnyIn_take (i := 18) (v := undef) rfl rfl (by kernel_rfl) (by kernel_rfl) (by kernel_rfl) (fun _ _ _ h => h) ⟨Or.inr ⟨by rfl, rfl⟩, fun _ => rfl⟩ ?_
                    simp only [List.getElem_toArray, List.getElem_cons_succ, List.getElem_cons_zero, Act.put, List.setIfInBounds_toArray, List.set_cons_zero, List.set_cons_succ]
                    refine wpAnyIn_take (i := 19) (v := undef) rfl rfl (by kernel_rfl) (by kernel_rfl) (by kernel_rfl) (fun _ _ _ h => h) ⟨Or.inr ⟨by rfl, rfl⟩, fun _ => rfl⟩ ?_
                    simp only [List.getElem_toArray, List.getElem_cons_succ, List.getElem_cons_zero, Act.put, List.setIfInBounds_toArray, List.set_cons_zero, List.set_cons_succ]
                    refine wpAnyIn_ready (rs := [20]) (by kernel_rfl) (by simp) ?_
                    refine AllReadyIn.cons rfl (fun K hK => ?_) ?_
                    · have hK' := hK; clear hK; have hK := hK'; clear hK'
                      go_simp
                      first | refine hK _ _ ?_ | refine ⟨by intros; trivial, hK _ _ ?_⟩
                      clear hK K
                      refine wpAnyIn_take (i := 21) (v := undef) rfl rfl (by kernel_rfl) (by kernel_rfl) (by kernel_rfl) (fun _ _ _ h => h) ⟨Or.inr ⟨by rfl, rfl⟩, fun _ => rfl⟩ ?_
                      simp only [List.getElem_toArray, List.getElem_cons_succ, List.getElem_cons_zero, Act.put, List.setIfInBounds_toArray, List.set_cons_zero, List.set_cons_succ]
                      refine wpAnyIn_take (i := 22) (v := ?_) rfl rfl (by kernel_rfl) (by kernel_rfl) (by kernel_rfl) (fun _ _ _ h => h) ⟨Or.inl ⟨by rfl, by intro w; go_simp; first | done | with_reducible rfl⟩, fun _ => rfl⟩ ?_
                      simp only [List.getElem_toArray, List.getElem_cons_succ, List.getElem_cons_zero, Act.put, List.setIfInBounds_toArray, List.set_cons_zero, List.set_cons_succ]
                      refine wpAnyIn_done (by kernel_rfl) ?_ _
                      gi_wp2
                      exact hfin.out _ ((Below.refl _ _).drew.trans b5) hI5.out
                    exact AllReadyIn.nil
                  exact AllReadyIn.nil
                exact AllReadyIn.nil
              exact AllReadyIn.nil
            exact AllReadyIn.nil
        · have dlt : decide ((n : Int) < (n2 : Int)) = false := by simp; omega
          have hc := cand_short (out := candF l pre) (m := x.2) (by rw [hl1, hx1]; omega)
          have hfin : ∀ W', Below W.heap.size W W' → LM w (.slice A n c) b9 q (head l) k A1 n1 c1 (candF l pre) W' → KeepsFrom W4.heap.size W W' ∧ KB (q + 1) q W W' ∧ ∃ A1 n1 c1, LM w (.slice A n c) b9 q (head l) k A1 n1 c1 (candF l (pre ++ [x])) W' := fun W' hb hM => by
            refine ⟨(keeps_below hb).from _, ⟨hb.block _ (by omega), hb.block _ (by omega)⟩, A1, n1, c1, ?_⟩
            rw [candF_snoc, hc]; exact hM
          replace hfin := Lib.hid hfin
          clear hc
          gi_wp2
          refine wpIn_region_any (by kernel_rfl) ?_
          try (change wpAnyIn _ _ _ _ _ _ _ _ _ (World.drew _))
          refine wpAnyIn_round (l := l') rfl (by intro i o hi c; revert hi; exact noDefer_spec (by kernel_rfl) i o c) _ _ _ _ ?_
          refine wpAnyIn_take (i := 0) (v := ?_) rfl rfl (by kernel_rfl) (by kernel_rfl) (by kernel_rfl) (fun _ _ _ h => h) ⟨Or.inl ⟨by rfl, by intro w; go_simp; first | done | with_reducible rfl⟩, fun _ => rfl⟩ ?_
          simp only [List.getElem_toArray, List.getElem_cons_succ, List.getElem_cons_zero, Act.put, List.setIfInBounds_toArray, List.set_cons_zero, List.set_cons_succ]
          refine wpAnyIn_take (i := 1) (v := ?_) rfl rfl (by kernel_rfl) (by kernel_rfl) (by kernel_rfl) (fun _ _ _ h => h) ⟨Or.inl ⟨by rfl, by intro w; go_simp; first | done | with_reducible rfl⟩, fun _ => rfl⟩ ?_
          simp only [List.getElem_toArray, List.getElem_cons_succ, List.getElem_cons_zero, Act.put, List.setIfInBounds_toArray, List.set_cons_zero, List.set_cons_succ]
          refine wpAnyIn_ready (rs := [2]) (by kernel_rfl) (by simp) ?_
          refine AllReadyIn.cons rfl (fun K hK => ?_) ?_
          · have hK' := hK; clear hK; have hK := hK'; clear hK'
            go_simp
            refine hK _ _ ?_
            clear hK K
            refine wpAnyIn_take (i := 3) (v := ?_) rfl rfl (by kernel_rfl) (by kernel_rfl) (by kernel_rfl) (fun _ _ _ h => h) ⟨Or.inl ⟨by rfl, by intro w; go_simp; first | done | with_reducible rfl⟩, fun _ => rfl⟩ ?_
            simp only [List.getElem_toArray, List.getElem_cons_succ, List.getElem_cons_zero, Act.put, List.setIfInBounds_toArray, List.set_cons_zero, List.set_cons_succ]
            refine wpAnyIn_take (i := 4) (v := ?_) rfl rfl (by kernel_rfl) (by kernel_rfl) (by kernel_rfl) (fun _ _ _ h => h) ⟨Or.inl ⟨by rfl, by intro w; go_simp; first | done | with_reducible rfl⟩, fun _ => rfl⟩ ?_
            simp only [List.getElem_toArray, List.getElem_cons_succ, List.getElem_cons_zero, Act.put, List.setIfInBounds_toArray, List.set_cons_zero, List.set_cons_succ]
            refine wpAnyIn_take (i := 5) (v := ?_) rfl rfl (by kernel_rfl) (by kernel_rfl) (by kernel_rfl) (fun _ _ _ h => h) ⟨Or.inl ⟨by rfl, by intro w; go_simp; first | done | with_reducible rfl⟩, fun _ => rfl⟩ ?_
            simp only [List.getElem_toArray, List.getElem_cons_succ, List.getElem_cons_zero, Act.put, List.setIfInBounds_toArray, List.set_cons_zero, List.set_cons_succ]
            refine wpAnyIn_take (i := 6) (v := undef) rfl rfl (by kernel_rfl) (by kernel_rfl) (by kernel_rfl) (fun _ _ _ h => h) ⟨Or.inr ⟨by rfl, rfl⟩, fun _ => rfl⟩ ?_
            simp only [List.getElem_toArray, List.getElem_cons_succ, List.getElem_cons_zero, Act.put, List.setIfInBounds_toArray, List.set_cons_zero, List.set_cons_succ]
            refine wpAnyIn_take (i := 7) (v := undef) rfl rfl (by kernel_rfl) (by kernel_rfl) (by kernel_rfl) (fun _ _ _ h => h) ⟨Or.inr ⟨by rfl, rfl⟩, fun _ => rfl⟩ ?_
            simp only [List.getElem_toArray, List.getElem_cons_succ, List.getElem_cons_zero, Act.put, List.setIfInBounds_toArray, List.set_cons_zero, List.set_cons_succ]
            refine wpAnyIn_take (i := 9) (v := undef) rfl rfl (by kernel_rfl) (by kernel_rfl) (by kernel_rfl) (fun _ _ _ h => h) ⟨Or.inr ⟨by rfl, rfl⟩, fun _ => rfl⟩ ?_
            simp only [List.getElem_toArray, List.getElem_cons_succ, List.getElem_cons_zero, Act.put, List.setIfInBounds_toArray, List.set_cons_zero, List.set_cons_succ]
            refine wpAnyIn_take (i := 10) (v := undef) rfl rfl (by kernel_rfl) (by kernel_rfl) (by kernel_rfl) (fun _ _ _ h => h) ⟨Or.inr ⟨by rfl, rfl⟩, fun _ => rfl⟩ ?_
            simp only [List.getElem_toArray, List.getElem_cons_succ, List.getElem_cons_zero, Act.put, List.setIfInBounds_toArray, List.set_cons_zero, List.set_cons_succ]
            refine wpAnyIn_ready (rs := [8]) (by kernel_rfl) (by simp) ?_
            refine AllReadyIn.cons rfl (fun K hK => ?_) ?_
            · have hK' := hK; clear hK; have hK := hK'; clear hK'
              go_simp
              first | refine hK _ _ ?_ | refine ⟨by intros; trivial, hK _ _ ?_⟩
              clear hK K
              refine wpAnyIn_take (i := 11) (v := undef) rfl rfl (by kernel_rfl) (by kernel_rfl) (by kernel_rfl) (fun _ _ _ h => h) ⟨Or.inr ⟨by rfl, rfl⟩, fun _ => rfl⟩ ?_
              simp only [List.getElem_toArray, List.getElem_cons_succ, List.getElem_cons_zero, Act.put, List.setIfInBounds_toArray, List.set_cons_zero, List.set_cons_succ]
              refine wpAnyIn_take (i := 12) (v := ?_) rfl rfl (by kernel_rfl) (by kernel_rfl) (by kernel_rfl) (fun _ _ _ h => h) ⟨Or.inl ⟨by rfl, by intro w; go_simp; first | done | with_reducible rfl⟩, fun _ => rfl⟩ ?_
              simp only [List.getElem_toArray, List.getElem_cons_succ, List.getElem_cons_zero, Act.put, List.setIfInBounds_toArray, List.set_cons_zero, List.set_cons_succ]
              refine wpAnyIn_take (i := 13) (v := ?_) rfl rfl (by kernel_rfl) (by kernel_rfl) (by kernel_rfl) (fun _ _ _ h => h) ⟨Or.inl ⟨by rfl, by intro w; go_simp; first | done | with_reducible rfl⟩, fun _ => rfl⟩ ?_
              simp only [List.getElem_toArray, List.getElem_cons_succ, List.getElem_cons_zero, Act.put, List.setIfInBounds_toArray, List.set_cons_zero, List.set_cons_succ]
              refine wpAnyIn_take (i := 14) (v := undef) rfl rfl (by kernel_rfl) (by kernel_rfl) (by kernel_rfl) (fun _ _ _ h => h) ⟨Or.inr ⟨by rfl, rfl⟩, fun _ => rfl⟩ ?_
              simp only [List.getElem_toArray, List.getElem_cons_succ, List.getElem_cons_zero, Act.put, List.setIfInBounds_toArray, List.set_cons_zero, List.set_cons_succ]
              refine wpAnyIn_take (i := 15) (v := undef) rfl rfl (by kernel_rfl) (by kernel_rfl) (by kernel_rfl) (fun _ _ _ h => h) ⟨Or.inr ⟨by rfl, rfl⟩, fun _ => rfl⟩ ?_
              simp only [List.getElem_toArray, List.getElem_cons_succ, List.getElem_cons_zero, Act.put, List.setIfInBounds_toArray, List.set_cons_zero, List.set_cons_succ]
              refine wpAnyIn_take (i := 16) (v := undef) rfl rfl (by kernel_rfl) (by kernel_rfl) (by kernel_rfl) (fun _ _ _ h => h) ⟨Or.inr ⟨by rfl, rfl⟩, fun _ => rfl⟩ ?_
              simp only [List.getElem_toArray, List.getElem_cons_succ, List.getElem_cons_zero, Act.put, List.setIfInBounds_toArray, List.set_cons_zero, List.set_cons_succ]
              refine wpAnyIn_take (i := 17) (v := undef) rfl rfl (by kernel_rfl) (by kernel_rfl) (by kernel_rfl) (fun _ _ _ h => h) ⟨Or.inr ⟨by rfl, rfl⟩, fun _ => rfl⟩ ?_
              simp only [List.getElem_toArray, List.getElem_cons_succ, List.getElem_cons_zero, Act.put, List.setIfInBounds_toArray, List.set_cons_zero, List.set_cons_succ]
              refine wpAnyIn_take (i := 18) (v := undef) rfl rfl (by kernel_rfl) (by kernel_rfl) (by kernel_rfl) (fun _ _ _ h => h) ⟨Or.inr ⟨by rfl, rfl⟩, fun _ => rfl⟩ ?_
              simp only [List.getElem_toArray, List.getElem_cons_succ, List.getElem_cons_zero, Act.put, List.setIfInBounds_toArray, List.set_cons_zero, List.set_cons_succ]
              refine wpAnyIn_take (i := 19) (v := undef) rfl rfl (by kernel_rfl) (by kernel_rfl) (by kernel_rfl) (fun _ _ _ h => h) ⟨Or.inr ⟨by rfl, rfl⟩, fun _ => rfl⟩ ?_
              simp only [List.getElem_toArray, List.getElem_cons_succ, List.getElem_cons_zero, Act.put, List.setIfInBounds_toArray, List.set_cons_zero, List.set_cons_succ]
              refine wpAnyIn_ready (rs := [20]) (by kernel_rfl) (by simp) ?_
              refine AllReadyIn.cons rfl (fun K hK => ?_) ?_
              · have hK' := hK; clear hK; have hK := hK'; clear hK'
                go_simp
                first | refine hK _ _ ?_ | refine ⟨by intros; trivial, hK _ _ ?_⟩
                clear hK K
                refine wpAnyIn_take (i := 21) (v := undef) rfl rfl (by kernel_rfl) (by kernel_rfl) (by kernel_rfl) (fun _ _ _ h => h) ⟨Or.inr ⟨by rfl, rfl⟩, fun _ => rfl⟩ ?_
                simp only [List.getElem_toArray, List.getElem_cons_succ, List.getElem_cons_zero, Act.put, List.setIfInBounds_toArray, List.set_cons_zero, List.set_cons_succ]
                refine wpAnyIn_take (i := 22) (v := ?_) rfl rfl (by kernel_rfl) (by kernel_rfl) (by kernel_rfl) (fun _ _ _ h => h) ⟨Or.inl ⟨by rfl, by intro w; go_simp; first | done | with_reducible rfl⟩, fun _ => rfl⟩ ?_
                simp only [List.getElem_toArray, List.getElem_cons_succ, List.getElem_cons_zero, Act.put, List.setIfInBounds_toArray, List.set_cons_zero, List.set_cons_succ]
                refine wpAnyIn_done (by kernel_rfl) ?_ _
                gi_wp2
                exact hfin.out _ ((Below.refl _ _).drew) hId.out
              exact AllReadyIn.nil
            exact AllReadyIn.nil
          exact AllReadyIn.nil
      case done =>
        rintro D W hD ⟨A1, n1, c1, hI⟩ hK
        have c9 := hI.ob.cell
        have hst := sort_any hI.own (by have := hI.small; omega)
        gi_wp2
        refine ⟨trivial, ?_⟩
        refine (callsIn_wide.2 hst).mono ?_
        rintro e w5 ⟨rfl, o5, g5⟩
        have d9' : Boxed w5 b9 25 (.slice A1 n1 c1) := (g5.block _ hI.ob.lt (fun e => hI.own.rowNe hI.ob (by decide) e.symm)).trans hI.ob
        have d9 := d9'.cell
        have k5 : w5.heap[D]? = some (.deferred (some [])) := (g5.block _ (Array.getElem?_eq_some_iff.1 hK).1 (fun e => by have := hI.own.rowCells D _ e.symm hK; cases this)).trans hK
        replace hst := Lib.hid hst
        gi_wp2
        refine ⟨by simp, .inl ⟨_, _, rfl, run_takeDeferred k5, ?_⟩⟩
        refine ⟨_, results_tmp2 rfl _ _ _, ?_⟩
        have hp := grownBy_putObj' w5 D (.deferred none)
        have hb := below_of_grown hp o5.bel.size (fun g e => by cases e; omega)
        refine ⟨A1, n1, c1, by simp [nextP, hk, hL], ?_⟩
        rw [show (nextP (k : Int) l).1 = sortE (candF l (seqs (head l) k)) from by simp [nextP, hk, hL]; rfl]
        exact ⟨o5.bel.trans hb, own_grown o5.own hp (fun r e => by cases e; exact ⟨_, k5, rfl⟩), o5.len, o5.cap⟩
    · have e1 : (legalP k l).1 = false := by simp [legalP, hk, hL]
      have e2 : (legalP k l).2.2 = 0 := by simp [legalP, hk]
      gi_wp2_with (refine ⟨trivial, ?_⟩; gi_at_call 14; refine (callsIn_wide.2 (legal_any k A n c l _ hs1 hn)).mono ?_; rintro e W1 ⟨rfl, b1⟩; rw [e1, e2])
      refine ⟨_, results_tmp2 rfl _ _ _, ?_⟩
      have hb := hb0.trans (b1.mono (by simp))
      exact ⟨none, 0, 0, by simp [nextP, hk, hL], by rw [show (nextP (k : Int) l).1 = [] from by simp [nextP, hk, hL]]; exact ⟨hb, own_none _ _, rfl, Nat.le_refl _⟩⟩
  · have e2 : (legalP N l).2.2 = 2 := by simp [legalP, hk]
    gi_wp2_with (refine ⟨trivial, ?_⟩; gi_at_call 14; refine (callsIn_wide.2 (legal_any N A n c l _ hs1 hn)).mono ?_; rintro e W1 ⟨rfl, b1⟩; rw [e2])
    refine ⟨_, results_tmp2 rfl _ _ _, ?_⟩
    have hb := hb0.trans (b1.mono (by simp))
    exact ⟨none, 0, 0, by simp [nextP, hk], by rw [show (nextP N l).1 = [] from by simp [nextP, hk]]; exact ⟨hb, own_none _ _, rfl, Nat.le_refl _⟩⟩
end Go.Proofs.YthmkfbabacehnaaDoor
