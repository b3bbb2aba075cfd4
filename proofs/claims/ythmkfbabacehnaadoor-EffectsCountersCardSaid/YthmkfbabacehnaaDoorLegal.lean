/- Legal: the program's. -/
import Derived.Test.YthmkfbabacehnaaDoorAllow
import Derived.Test.YthmkfbabacehnaaDoorSeq
namespace Go.Proofs.YthmkfbabacehnaaDoor
open Go.RowKit Go.Shelf
set_option linter.unusedSimpArgs false
set_option linter.unusedVariables false
set_option linter.unusedSectionVars false
set_option maxRecDepth 10000
attribute [local go_sem] Oper.semAt_some
theorem isCells_of_cell {W : World} {a : Addr} {v : Value} (h : W.cell? a = some v) : ∃ o : Obj, W.heap[a.block]? = some o ∧ o.isCells = true := by
  simp only [World.cell?] at h
  split at h
  · rename_i cs ty hh
    exact ⟨_, hh, rfl⟩
  · cases h
theorem own_grown {W W' : World} {base n : Nat} {e : TypeId} {k : Nat} {v : Value} {xs : List Value} {row : Option Nat} (h : W.ownsRow base e k v n xs) (hg : W.grownBy W' row) (hr : ∀ r, row = some r → ∃ o : Obj, W.heap[r]? = some o ∧ o.isCells = false) : W'.ownsRow base e k v n xs := by
  rcases h.2 with ⟨e1, e2⟩ | ⟨g, cp, cur, e1, e2, hh, r⟩
  · exact ⟨h.1, .inl ⟨e1, e2⟩⟩
  · refine ⟨h.1, .inr ⟨g, cp, cur, e1, e2, (hg.block g (Array.getElem?_eq_some_iff.1 hh).1 (fun e => ?_)).trans hh, r⟩⟩
    obtain ⟨o, h1, h2⟩ := hr g e.symm
    rw [hh] at h1
    injection h1 with h1
    subst h1
    cases h2
/-- What Legal holds: the box of the list, the box of the best number. -/
structure LG (w : World) (v : Value) (b9 : Nat) (z : Int) (W : World) : Prop where
  bel : Below w.heap.size w W
  box : Boxed W w.heap.size 25 v
  bst : Boxed W b9 3 (.int .i64 z)
theorem LG.keep {w W W' : World} {v : Value} {b9 : Nat} {z : Int} (h : LG w v b9 z W) (hb : Below W.heap.size W W') : LG w v b9 z W' :=
  ⟨h.bel.trans (hb.mono h.bel.size), (hb.block _ h.box.lt).trans h.box, (hb.block _ h.bst.lt).trans h.bst⟩
theorem LG.grown {w W W' : World} {v : Value} {b9 B : Nat} {z : Int} {row : Option Nat} (h : LG w v b9 z W) (hg : W.grownBy W' row) (hr : ∀ r, row = some r → B ≤ r ∧ ∃ o : Obj, W.heap[r]? = some o ∧ o.isCells = false) (hB : b9 < B) (hwB : w.heap.size < B) : LG w v b9 z W' := by
  have hb := below_of_grown (base := w.heap.size) hg h.bel.size (fun g e => by have := (hr g e).1; omega)
  refine ⟨h.bel.trans hb, (hg.block _ h.box.lt (fun e => ?_)).trans h.box, (hg.block _ h.bst.lt (fun e => ?_)).trans h.bst⟩
  · have := (hr _ e.symm).1; omega
  · have := (hr _ e.symm).1; omega
theorem LG.set {w W : World} {v : Value} {b9 : Nat} {z : Int} (h : LG w v b9 z W) (hb : w.heap.size < b9) (y : Int) : LG w v b9 y (W.setCell ⟨b9, 0, none⟩ (.int .i64 y)) :=
  ⟨Below.setCell h.bel (by simp; omega) _, (hpFar (by simp; omega)).trans h.box, h.bst.set _⟩
theorem keeps_below {W W' : World} (h : Below W.heap.size W W') : KeepsOthers W W' := ⟨h.size, fun k o hk _ => (h.block k (Array.getElem?_eq_some_iff.1 hk).1).trans hk⟩
theorem seqs_len {s : Int} {k : Nat} {m : Int × List Ef} (h : m ∈ seqs s k) : m.2.length ≤ 2 * k := by
  simp only [seqs, List.mem_append, List.mem_map, List.mem_range, List.mem_singleton] at h
  rcases h with ⟨j, hj, rfl⟩ | rfl
  · simp [seqA, ups]; omega
  · simp [seqD, ups]; omega
set_option maxRecDepth 100000 in
set_option maxHeartbeats 8000000 in
theorem legal_any (N : Int) (A : Option Addr) (n c : Nat) (l : List Ef) (w : World) (h1 : ES w A n l) (hn : n ≤ 70368744177664) :
    Calls Tryd.prog 14 #[.int .i64 N, .slice A n c] w fun e w' => e = .returned (.tuple #[.bool (legalP N l).1, .int .i64 (legalP N l).2.1, .int .i64 (legalP N l).2.2]) ∧ Below w.heap.size w w' := by
  have hl1 := h1.1
  refine (callsIn_wide (n := 5)).1 ?_
  refine callsIn_of_wp_marks Tryd.func14 rfl trivial ?_ rfl
  simp only [Tryd.ntmps14, List.size_toArray, List.length_cons, List.length_nil, Nat.reduceAdd, Nat.reduceSub, Array.replicate_succ, Array.replicate_zero, List.push_toArray, List.append_toArray, List.nil_append, List.cons_append]
  by_cases hk : okL N l = true
  · have hE : errL N l = 0 := by simp [errL, hk]
    have hH : sagaL N l = head l := by simp [sagaL, hk]
    have hn8 := (okL_iff N l).1 hk
    replace hn8 := hn8.1
    obtain ⟨k, rfl⟩ : ∃ k : Nat, N = k := ⟨N.toNat, by omega⟩
    have hs1 : ES (w.alloc (.cells #[.slice A n c] 25)) A n l := SL.keep h1 ((Below.refl _ _).alloc (Nat.le_refl _) _)
    gi_wp2_with (refine ⟨trivial, ?_⟩; gi_at_call 24; refine (callsIn_wide.2 (allowed_any k A n c l _ hs1 hn)).mono ?_; rintro e w1 ⟨rfl, b1⟩; rw [hE, hH])
    have hb0 : Boxed w1 w.heap.size 25 (.slice A n c) := (b1.block _ (by simp)).trans (Boxed.new w _ _)
    have hG : LG w (.slice A n c) w1.heap.size 0 (w1.alloc (.cells #[.int .i64 0] 3)) := by
      have hb := (Below.refl w.heap.size w).alloc (Nat.le_refl _) (.cells #[.slice A n c] 25)
      have hb2 := hb.trans (b1.mono (by simp))
      exact ⟨hb2.alloc hb2.size _, hb0.alloc _, Boxed.new _ _ _⟩
    clear hs1 hE hH
    generalize hb9 : w1.heap.size = b9 at hG
    have hb9w : w.heap.size < b9 := by rw [← hb9]; have := b1.size; simp at this; omega
    generalize hW1 : w1.alloc (.cells #[.int .i64 0] 3) = W1 at hG
    gi_wp2_with (refine ⟨trivial, ?_⟩; gi_at_call 23; refine (wholeF_in _ _ _ _).mono ?_; rintro e w2 ⟨rfl, rfl⟩)
    have hbq : b9 < W1.heap.size := by rw [← hW1, ← hb9]; simp
    generalize hq : W1.heap.size = q at *
    have hB : Boxed ((W1.alloc (.cells #[.int .i64 (head l)] 3)).alloc (.cells #[.int .i64 (k : Int)] 3)) (q + 1) 3 (.int .i64 (k : Int)) := by
      have := Boxed.new (W1.alloc (.cells #[.int .i64 (head l)] 3)) 3 (.int .i64 (k : Int))
      rwa [World.size_alloc, hq] at this
    have hS : Boxed ((W1.alloc (.cells #[.int .i64 (head l)] 3)).alloc (.cells #[.int .i64 (k : Int)] 3)) q 3 (.int .i64 (head l)) := by
      have := (Boxed.new W1 3 (.int .i64 (head l))).alloc (.cells #[.int .i64 (k : Int)] 3)
      rwa [hq] at this
    have hG2 : LG w (.slice A n c) b9 0 ((W1.alloc (.cells #[.int .i64 (head l)] 3)).alloc (.cells #[.int .i64 (k : Int)] 3)) := (hG.keep ((Below.refl _ _).alloc (Nat.le_refl _) _)).keep ((Below.refl _ _).alloc (Nat.le_refl _) _)
    have hsz : ((W1.alloc (.cells #[.int .i64 (head l)] 3)).alloc (.cells #[.int .i64 (k : Int)] 3)).heap.size = q + 2 := by simp [hq]
    generalize (W1.alloc (.cells #[.int .i64 (head l)] 3)).alloc (.cells #[.int .i64 (k : Int)] 3) = W2 at *
    clear hG hW1 hb0 b1 hb9
    have hk8 : k ≤ 8 := by omega
    refine wpIn_rangeMem rfl (by omega) (gf := 39) (lb := #[.pointer (some ⟨q + 1, 0, none⟩), .pointer (some ⟨q, 0, none⟩)]) rfl trivial (enters_of Tryd.func39 (by kernel_rfl) rfl)
      (whole_seq _ (q + 1) q (head l) k hk8 (by omega) _ hB hS) (fun A => ⟨rfl, rfl⟩) (fun h h' => ⟨h'.1.trans h.1, h'.2.trans h.2⟩) ?kg (fun x vs W0 W1 h => by obtain ⟨A', n', c', rfl, _⟩ := h; rfl) ?ro
      (fun pre W => LG w (.slice A n c) b9 (best (beg l) pre : Nat) W) (fun _ _ _ => False) ?own (fun _ => fun _ _ _ _ h => h.elim) hG2
      (fun vs => { tmps := #[.int .i64 (k : Int), .slice A n c, undef, .pointer (some ⟨w.heap.size, 0, none⟩),
          .bool false, .int .i64 0, .int .i64 0, .int .i64 (head l),
          .int .i64 0, .pointer (some ⟨b9, 0, none⟩), undef, vs.getD 1 undef,
          .tuple #[.int .i64 (head l), .int .i64 0], .int .i64 (k : Int),
          .slice A n c, .tuple #[.int .i64 (head l), .int .i64 0],
          .int .i64 (head l), .int .i64 0, .int .i64 0, .bool false, undef,
          .int .i64 (head l), .int .i64 (k : Int),
          .func (.func 39) #[] #[.pointer (some ⟨q + 1, 0, none⟩), .pointer (some ⟨q, 0, none⟩)],
          vs.getD 0 undef, vs.getD 1 undef, undef, undef, undef, undef, undef, undef, undef, undef, undef, undef], defers := [] }) ?assign ?body ?done (fun _ _ _ _ _ _ _ _ h => h.elim)
    case kg =>
      intro X Y row hg hr hX
      constructor
      · refine hg.block _ (by omega) (fun e => ?_)
        have := (hr _ e.symm).1
        omega
      · refine hg.block _ (by omega) (fun e => ?_)
        have := (hr _ e.symm).1
        omega
    case ro =>
      rintro x vs W0 _ X Y row ⟨A', n', c', rfl, h1, h2, h3⟩ hg hr
      exact ⟨A', n', c', rfl, h1, h2, own_grown h3 hg (fun r e => (hr r e).2)⟩
    case own =>
      intro pre X Y row h hg hr
      exact h.grown hg hr (by omega) (by omega)
    case assign =>
      rintro l' x vs W0 W K ⟨A', n', c', rfl, h1, h2, h3⟩ hK
      gi_wp2
      exact hK
    case body =>
      rintro l' pre x rest vs W0 W hxs hl' hL hgr hI0 hI ⟨A2, n2, c2, rfl, hx1, hx2, hown⟩
      have hm : n2 ≤ 70368744177664 := by
        have := seqs_len (s := head l) (k := k) (m := x) (by rw [hxs]; simp)
        omega
      have hGd : LG w (.slice A n c) b9 (best (beg l) pre : Nat) W.drew := hI.keep (Below.refl _ _).drew
      have E1 : ES W.drew A n l := SL.keep h1 hGd.bel
      have E2 : ES W.drew A2 n2 x.2 := SL.keep (SL.of_own encE_len hown hx1) (Below.refl _ _).drew
      have c3 := hI.box.cell
      have c9 := hI.bst.cell
      have g9 := hI.bst.frozen
      have hmx : Tryd.prog.follows .mixedOrders = true := by kernel_rfl
      gi_wp2
      refine wpIn_region_any hmx ?_
      change wpAnyIn _ _ _ _ _ _ _ _ _ (World.drew _)
      refine wpAnyIn_ready (rs := [0, 1, 2]) (by kernel_rfl) (by simp) ?_
      refine AllReadyIn.cons rfl (fun K hK => ?_) ?_
      · have hK' := hK; clear hK; have hK := hK'; clear hK'
        go_simp
        refine hK _ _ ?_
        clear hK K
        refine wpAnyIn_ready (rs := [1, 2]) (by kernel_rfl) (by simp) ?_
        refine AllReadyIn.cons rfl (fun K hK => ?_) ?_
        · have hK' := hK; clear hK; have hK := hK'; clear hK'
          go_simp
          refine hK _ _ ?_
          clear hK K
          refine wpAnyIn_ready (rs := [2]) (by kernel_rfl) (by simp) ?_
          refine AllReadyIn.cons rfl (fun K hK => ?_) ?_
          · have hK' := hK; clear hK; have hK := hK'; clear hK'
            go_simp
            refine hK _ _ ?_
            clear hK K
            refine wpAnyIn_ready (rs := [3]) (by kernel_rfl) (by simp) ?_
            refine AllReadyIn.cons rfl (fun K hK => ?_) ?_
            · have hK' := hK; clear hK; have hK := hK'; clear hK'
              go_simp
              gi_wp2_with (refine ⟨trivial, ?_⟩; gi_at_call 26; refine (CallsIn.inRound l' (callsIn_wide.2 (begins_any A A2 n c n2 c2 l x.2 _ E1 E2 hn hm))).mono ?_; rintro e w5 ⟨rfl, b5⟩)
              have hG5 := hGd.keep b5
              have d3 := hG5.box.cell
              have d9 := hG5.bst.cell
              have f9 := hG5.bst.frozen
              refine wpAnyIn_ready (rs := [4]) (by kernel_rfl) (by simp) ?_
              refine AllReadyIn.cons rfl (fun K hK => ?_) ?_
              · have hK' := hK; clear hK; have hK := hK'; clear hK'
                go_simp
                refine hK _ _ ?_
                clear hK K
                refine wpAnyIn_ready (rs := [5]) (by kernel_rfl) (by simp) ?_
                refine AllReadyIn.cons rfl (fun K hK => ?_) ?_
                · have hK' := hK; clear hK; have hK := hK'; clear hK'
                  go_simp
                  refine hK _ _ ?_
                  clear hK K
                  refine wpAnyIn_done (by kernel_rfl) ?_ _
                  have hmax : max ((best (beg l) pre : Nat) : Int) ((beg l x.2 : Nat) : Int) = ((best (beg l) (pre ++ [x]) : Nat) : Int) := by
                    simp only [best, List.foldl_append, List.foldl_cons, List.foldl_nil]; omega
                  rw [hmax]
                  have b5' : Below W.heap.size W w5 := ((Below.refl _ _).drew).trans b5
                  simp only [Exit.inBlock]
                  refine ⟨((keeps_below b5').trans (KeepsOthers.setCell _ _ _)).from _, ⟨(hpFar (by simp; omega)).trans (b5'.block _ ?_), (hpFar (by simp; omega)).trans (b5'.block _ ?_)⟩, hG5.set hb9w _⟩
                  · have := hgr.size; have := hl'; obtain ⟨o, h0, _⟩ := hL; have := (Array.getElem?_eq_some_iff.1 h0).1; omega
                  · have := hgr.size; have := hl'; obtain ⟨o, h0, _⟩ := hL; have := (Array.getElem?_eq_some_iff.1 h0).1; omega
                exact AllReadyIn.nil
              exact AllReadyIn.nil
            exact AllReadyIn.nil
          exact AllReadyIn.nil
        refine AllReadyIn.cons rfl (fun K hK => ?_) ?_
        · have hK' := hK; clear hK; have hK := hK'; clear hK'
          go_simp
          refine hK _ _ ?_
          clear hK K
          refine wpAnyIn_ready (rs := [1]) (by kernel_rfl) (by simp) ?_
          refine AllReadyIn.cons rfl (fun K hK => ?_) ?_
          · have hK' := hK; clear hK; have hK := hK'; clear hK'
            go_simp
            refine hK _ _ ?_
            clear hK K
            refine wpAnyIn_ready (rs := [3]) (by kernel_rfl) (by simp) ?_
            refine AllReadyIn.cons rfl (fun K hK => ?_) ?_
            · have hK' := hK; clear hK; have hK := hK'; clear hK'
              go_simp
              gi_wp2_with (refine ⟨trivial, ?_⟩; gi_at_call 26; refine (CallsIn.inRound l' (callsIn_wide.2 (begins_any A A2 n c n2 c2 l x.2 _ E1 E2 hn hm))).mono ?_; rintro e w5 ⟨rfl, b5⟩)
              have hG5 := hGd.keep b5
              have d3 := hG5.box.cell
              have d9 := hG5.bst.cell
              have f9 := hG5.bst.frozen
              refine wpAnyIn_ready (rs := [4]) (by kernel_rfl) (by simp) ?_
              refine AllReadyIn.cons rfl (fun K hK => ?_) ?_
              · have hK' := hK; clear hK; have hK := hK'; clear hK'
                go_simp
                refine hK _ _ ?_
                clear hK K
                refine wpAnyIn_ready (rs := [5]) (by kernel_rfl) (by simp) ?_
                refine AllReadyIn.cons rfl (fun K hK => ?_) ?_
                · have hK' := hK; clear hK; have hK := hK'; clear hK'
                  go_simp
                  refine hK _ _ ?_
                  clear hK K
                  refine wpAnyIn_done (by kernel_rfl) ?_ _
                  have hmax : max ((best (beg l) pre : Nat) : Int) ((beg l x.2 : Nat) : Int) = ((best (beg l) (pre ++ [x]) : Nat) : Int) := by
                    simp only [best, List.foldl_append, List.foldl_cons, List.foldl_nil]; omega
                  rw [hmax]
                  have b5' : Below W.heap.size W w5 := ((Below.refl _ _).drew).trans b5
                  simp only [Exit.inBlock]
                  refine ⟨((keeps_below b5').trans (KeepsOthers.setCell _ _ _)).from _, ⟨(hpFar (by simp; omega)).trans (b5'.block _ ?_), (hpFar (by simp; omega)).trans (b5'.block _ ?_)⟩, hG5.set hb9w _⟩
                  · have := hgr.size; have := hl'; obtain ⟨o, h0, _⟩ := hL; have := (Array.getElem?_eq_some_iff.1 h0).1; omega
                  · have := hgr.size; have := hl'; obtain ⟨o, h0, _⟩ := hL; have := (Array.getElem?_eq_some_iff.1 h0).1; omega
                exact AllReadyIn.nil
              exact AllReadyIn.nil
            exact AllReadyIn.nil
          exact AllReadyIn.nil
        exact AllReadyIn.nil
      refine AllReadyIn.cons rfl (fun K hK => ?_) ?_
      · have hK' := hK; clear hK; have hK := hK'; clear hK'
        go_simp
        refine hK _ _ ?_
        clear hK K
        refine wpAnyIn_ready (rs := [0, 2]) (by kernel_rfl) (by simp) ?_
        refine AllReadyIn.cons rfl (fun K hK => ?_) ?_
        · have hK' := hK; clear hK; have hK := hK'; clear hK'
          go_simp
          refine hK _ _ ?_
          clear hK K
          refine wpAnyIn_ready (rs := [2]) (by kernel_rfl) (by simp) ?_
          refine AllReadyIn.cons rfl (fun K hK => ?_) ?_
          · have hK' := hK; clear hK; have hK := hK'; clear hK'
            go_simp
            refine hK _ _ ?_
            clear hK K
            refine wpAnyIn_ready (rs := [3]) (by kernel_rfl) (by simp) ?_
            refine AllReadyIn.cons rfl (fun K hK => ?_) ?_
            · have hK' := hK; clear hK; have hK := hK'; clear hK'
              go_simp
              gi_wp2_with (refine ⟨trivial, ?_⟩; gi_at_call 26; refine (CallsIn.inRound l' (callsIn_wide.2 (begins_any A A2 n c n2 c2 l x.2 _ E1 E2 hn hm))).mono ?_; rintro e w5 ⟨rfl, b5⟩)
              have hG5 := hGd.keep b5
              have d3 := hG5.box.cell
              have d9 := hG5.bst.cell
              have f9 := hG5.bst.frozen
              refine wpAnyIn_ready (rs := [4]) (by kernel_rfl) (by simp) ?_
              refine AllReadyIn.cons rfl (fun K hK => ?_) ?_
              · have hK' := hK; clear hK; have hK := hK'; clear hK'
                go_simp
                refine hK _ _ ?_
                clear hK K
                refine wpAnyIn_ready (rs := [5]) (by kernel_rfl) (by simp) ?_
                refine AllReadyIn.cons rfl (fun K hK => ?_) ?_
                · have hK' := hK; clear hK; have hK := hK'; clear hK'
                  go_simp
                  refine hK _ _ ?_
                  clear hK K
                  refine wpAnyIn_done (by kernel_rfl) ?_ _
                  have hmax : max ((best (beg l) pre : Nat) : Int) ((beg l x.2 : Nat) : Int) = ((best (beg l) (pre ++ [x]) : Nat) : Int) := by
                    simp only [best, List.foldl_append, List.foldl_cons, List.foldl_nil]; omega
                  rw [hmax]
                  have b5' : Below W.heap.size W w5 := ((Below.refl _ _).drew).trans b5
                  simp only [Exit.inBlock]
                  refine ⟨((keeps_below b5').trans (KeepsOthers.setCell _ _ _)).from _, ⟨(hpFar (by simp; omega)).trans (b5'.block _ ?_), (hpFar (by simp; omega)).trans (b5'.block _ ?_)⟩, hG5.set hb9w _⟩
                  · have := hgr.size; have := hl'; obtain ⟨o, h0, _⟩ := hL; have := (Array.getElem?_eq_some_iff.1 h0).1; omega
                  · have := hgr.size; have := hl'; obtain ⟨o, h0, _⟩ := hL; have := (Array.getElem?_eq_some_iff.1 h0).1; omega
                exact AllReadyIn.nil
              exact AllReadyIn.nil
            exact AllReadyIn.nil
          exact AllReadyIn.nil
        refine AllReadyIn.cons rfl (fun K hK => ?_) ?_
        · have hK' := hK; clear hK; have hK := hK'; clear hK'
          go_simp
          refine hK _ _ ?_
          clear hK K
          refine wpAnyIn_ready (rs := [0, 3]) (by kernel_rfl) (by simp) ?_
          refine AllReadyIn.cons rfl (fun K hK => ?_) ?_
          · have hK' := hK; clear hK; have hK := hK'; clear hK'
            go_simp
            refine hK _ _ ?_
            clear hK K
            refine wpAnyIn_ready (rs := [3]) (by kernel_rfl) (by simp) ?_
            refine AllReadyIn.cons rfl (fun K hK => ?_) ?_
            · have hK' := hK; clear hK; have hK := hK'; clear hK'
              go_simp
              gi_wp2_with (refine ⟨trivial, ?_⟩; gi_at_call 26; refine (CallsIn.inRound l' (callsIn_wide.2 (begins_any A A2 n c n2 c2 l x.2 _ E1 E2 hn hm))).mono ?_; rintro e w5 ⟨rfl, b5⟩)
              have hG5 := hGd.keep b5
              have d3 := hG5.box.cell
              have d9 := hG5.bst.cell
              have f9 := hG5.bst.frozen
              refine wpAnyIn_ready (rs := [4]) (by kernel_rfl) (by simp) ?_
              refine AllReadyIn.cons rfl (fun K hK => ?_) ?_
              · have hK' := hK; clear hK; have hK := hK'; clear hK'
                go_simp
                refine hK _ _ ?_
                clear hK K
                refine wpAnyIn_ready (rs := [5]) (by kernel_rfl) (by simp) ?_
                refine AllReadyIn.cons rfl (fun K hK => ?_) ?_
                · have hK' := hK; clear hK; have hK := hK'; clear hK'
                  go_simp
                  refine hK _ _ ?_
                  clear hK K
                  refine wpAnyIn_done (by kernel_rfl) ?_ _
                  have hmax : max ((best (beg l) pre : Nat) : Int) ((beg l x.2 : Nat) : Int) = ((best (beg l) (pre ++ [x]) : Nat) : Int) := by
                    simp only [best, List.foldl_append, List.foldl_cons, List.foldl_nil]; omega
                  rw [hmax]
                  have b5' : Below W.heap.size W w5 := ((Below.refl _ _).drew).trans b5
                  simp only [Exit.inBlock]
                  refine ⟨((keeps_below b5').trans (KeepsOthers.setCell _ _ _)).from _, ⟨(hpFar (by simp; omega)).trans (b5'.block _ ?_), (hpFar (by simp; omega)).trans (b5'.block _ ?_)⟩, hG5.set hb9w _⟩
                  · have := hgr.size; have := hl'; obtain ⟨o, h0, _⟩ := hL; have := (Array.getElem?_eq_some_iff.1 h0).1; omega
                  · have := hgr.size; have := hl'; obtain ⟨o, h0, _⟩ := hL; have := (Array.getElem?_eq_some_iff.1 h0).1; omega
                exact AllReadyIn.nil
              exact AllReadyIn.nil
            exact AllReadyIn.nil
          refine AllReadyIn.cons rfl (fun K hK => ?_) ?_
          · have hK' := hK; clear hK; have hK := hK'; clear hK'
            go_simp
            gi_wp2_with (refine ⟨trivial, ?_⟩; gi_at_call 26; refine (CallsIn.inRound l' (callsIn_wide.2 (begins_any A A2 n c n2 c2 l x.2 _ E1 E2 hn hm))).mono ?_; rintro e w5 ⟨rfl, b5⟩)
            have hG5 := hGd.keep b5
            have d3 := hG5.box.cell
            have d9 := hG5.bst.cell
            have f9 := hG5.bst.frozen
            refine wpAnyIn_ready (rs := [0]) (by kernel_rfl) (by simp) ?_
            refine AllReadyIn.cons rfl (fun K hK => ?_) ?_
            · have hK' := hK; clear hK; have hK := hK'; clear hK'
              go_simp
              refine hK _ _ ?_
              clear hK K
              refine wpAnyIn_ready (rs := [4]) (by kernel_rfl) (by simp) ?_
              refine AllReadyIn.cons rfl (fun K hK => ?_) ?_
              · have hK' := hK; clear hK; have hK := hK'; clear hK'
                go_simp
                refine hK _ _ ?_
                clear hK K
                refine wpAnyIn_ready (rs := [5]) (by kernel_rfl) (by simp) ?_
                refine AllReadyIn.cons rfl (fun K hK => ?_) ?_
                · have hK' := hK; clear hK; have hK := hK'; clear hK'
                  go_simp
                  refine hK _ _ ?_
                  clear hK K
                  refine wpAnyIn_done (by kernel_rfl) ?_ _
                  have hmax : max ((best (beg l) pre : Nat) : Int) ((beg l x.2 : Nat) : Int) = ((best (beg l) (pre ++ [x]) : Nat) : Int) := by
                    simp only [best, List.foldl_append, List.foldl_cons, List.foldl_nil]; omega
                  rw [hmax]
                  have b5' : Below W.heap.size W w5 := ((Below.refl _ _).drew).trans b5
                  simp only [Exit.inBlock]
                  refine ⟨((keeps_below b5').trans (KeepsOthers.setCell _ _ _)).from _, ⟨(hpFar (by simp; omega)).trans (b5'.block _ ?_), (hpFar (by simp; omega)).trans (b5'.block _ ?_)⟩, hG5.set hb9w _⟩
                  · have := hgr.size; have := hl'; obtain ⟨o, h0, _⟩ := hL; have := (Array.getElem?_eq_some_iff.1 h0).1; omega
                  · have := hgr.size; have := hl'; obtain ⟨o, h0, _⟩ := hL; have := (Array.getElem?_eq_some_iff.1 h0).1; omega
                exact AllReadyIn.nil
              exact AllReadyIn.nil
            exact AllReadyIn.nil
          exact AllReadyIn.nil
        exact AllReadyIn.nil
      refine AllReadyIn.cons rfl (fun K hK => ?_) ?_
      · have hK' := hK; clear hK; have hK := hK'; clear hK'
        go_simp
        refine hK _ _ ?_
        clear hK K
        refine wpAnyIn_ready (rs := [0, 1]) (by kernel_rfl) (by simp) ?_
        refine AllReadyIn.cons rfl (fun K hK => ?_) ?_
        · have hK' := hK; clear hK; have hK := hK'; clear hK'
          go_simp
          refine hK _ _ ?_
          clear hK K
          refine wpAnyIn_ready (rs := [1]) (by kernel_rfl) (by simp) ?_
          refine AllReadyIn.cons rfl (fun K hK => ?_) ?_
          · have hK' := hK; clear hK; have hK := hK'; clear hK'
            go_simp
            refine hK _ _ ?_
            clear hK K
            refine wpAnyIn_ready (rs := [3]) (by kernel_rfl) (by simp) ?_
            refine AllReadyIn.cons rfl (fun K hK => ?_) ?_
            · have hK' := hK; clear hK; have hK := hK'; clear hK'
              go_simp
              gi_wp2_with (refine ⟨trivial, ?_⟩; gi_at_call 26; refine (CallsIn.inRound l' (callsIn_wide.2 (begins_any A A2 n c n2 c2 l x.2 _ E1 E2 hn hm))).mono ?_; rintro e w5 ⟨rfl, b5⟩)
              have hG5 := hGd.keep b5
              have d3 := hG5.box.cell
              have d9 := hG5.bst.cell
              have f9 := hG5.bst.frozen
              refine wpAnyIn_ready (rs := [4]) (by kernel_rfl) (by simp) ?_
              refine AllReadyIn.cons rfl (fun K hK => ?_) ?_
              · have hK' := hK; clear hK; have hK := hK'; clear hK'
                go_simp
                refine hK _ _ ?_
                clear hK K
                refine wpAnyIn_ready (rs := [5]) (by kernel_rfl) (by simp) ?_
                refine AllReadyIn.cons rfl (fun K hK => ?_) ?_
                · have hK' := hK; clear hK; have hK := hK'; clear hK'
                  go_simp
                  refine hK _ _ ?_
                  clear hK K
                  refine wpAnyIn_done (by kernel_rfl) ?_ _
                  have hmax : max ((best (beg l) pre : Nat) : Int) ((beg l x.2 : Nat) : Int) = ((best (beg l) (pre ++ [x]) : Nat) : Int) := by
                    simp only [best, List.foldl_append, List.foldl_cons, List.foldl_nil]; omega
                  rw [hmax]
                  have b5' : Below W.heap.size W w5 := ((Below.refl _ _).drew).trans b5
                  simp only [Exit.inBlock]
                  refine ⟨((keeps_below b5').trans (KeepsOthers.setCell _ _ _)).from _, ⟨(hpFar (by simp; omega)).trans (b5'.block _ ?_), (hpFar (by simp; omega)).trans (b5'.block _ ?_)⟩, hG5.set hb9w _⟩
                  · have := hgr.size; have := hl'; obtain ⟨o, h0, _⟩ := hL; have := (Array.getElem?_eq_some_iff.1 h0).1; omega
                  · have := hgr.size; have := hl'; obtain ⟨o, h0, _⟩ := hL; have := (Array.getElem?_eq_some_iff.1 h0).1; omega
                exact AllReadyIn.nil
              exact AllReadyIn.nil
            exact AllReadyIn.nil
          exact AllReadyIn.nil
        refine AllReadyIn.cons rfl (fun K hK => ?_) ?_
        · have hK' := hK; clear hK; have hK := hK'; clear hK'
          go_simp
          refine hK _ _ ?_
          clear hK K
          refine wpAnyIn_ready (rs := [0, 3]) (by kernel_rfl) (by simp) ?_
          refine AllReadyIn.cons rfl (fun K hK => ?_) ?_
          · have hK' := hK; clear hK; have hK := hK'; clear hK'
            go_simp
            refine hK _ _ ?_
            clear hK K
            refine wpAnyIn_ready (rs := [3]) (by kernel_rfl) (by simp) ?_
            refine AllReadyIn.cons rfl (fun K hK => ?_) ?_
            · have hK' := hK; clear hK; have hK := hK'; clear hK'
              go_simp
              gi_wp2_with (refine ⟨trivial, ?_⟩; gi_at_call 26; refine (CallsIn.inRound l' (callsIn_wide.2 (begins_any A A2 n c n2 c2 l x.2 _ E1 E2 hn hm))).mono ?_; rintro e w5 ⟨rfl, b5⟩)
              have hG5 := hGd.keep b5
              have d3 := hG5.box.cell
              have d9 := hG5.bst.cell
              have f9 := hG5.bst.frozen
              refine wpAnyIn_ready (rs := [4]) (by kernel_rfl) (by simp) ?_
              refine AllReadyIn.cons rfl (fun K hK => ?_) ?_
              · have hK' := hK; clear hK; have hK := hK'; clear hK'
                go_simp
                refine hK _ _ ?_
                clear hK K
                refine wpAnyIn_ready (rs := [5]) (by kernel_rfl) (by simp) ?_
                refine AllReadyIn.cons rfl (fun K hK => ?_) ?_
                · have hK' := hK; clear hK; have hK := hK'; clear hK'
                  go_simp
                  refine hK _ _ ?_
                  clear hK K
                  refine wpAnyIn_done (by kernel_rfl) ?_ _
                  have hmax : max ((best (beg l) pre : Nat) : Int) ((beg l x.2 : Nat) : Int) = ((best (beg l) (pre ++ [x]) : Nat) : Int) := by
                    simp only [best, List.foldl_append, List.foldl_cons, List.foldl_nil]; omega
                  rw [hmax]
                  have b5' : Below W.heap.size W w5 := ((Below.refl _ _).drew).trans b5
                  simp only [Exit.inBlock]
                  refine ⟨((keeps_below b5').trans (KeepsOthers.setCell _ _ _)).from _, ⟨(hpFar (by simp; omega)).trans (b5'.block _ ?_), (hpFar (by simp; omega)).trans (b5'.block _ ?_)⟩, hG5.set hb9w _⟩
                  · have := hgr.size; have := hl'; obtain ⟨o, h0, _⟩ := hL; have := (Array.getElem?_eq_some_iff.1 h0).1; omega
                  · have := hgr.size; have := hl'; obtain ⟨o, h0, _⟩ := hL; have := (Array.getElem?_eq_some_iff.1 h0).1; omega
                exact AllReadyIn.nil
              exact AllReadyIn.nil
            exact AllReadyIn.nil
          refine AllReadyIn.cons rfl (fun K hK => ?_) ?_
          · have hK' := hK; clear hK; have hK := hK'; clear hK'
            go_simp
            gi_wp2_with (refine ⟨trivial, ?_⟩; gi_at_call 26; refine (CallsIn.inRound l' (callsIn_wide.2 (begins_any A A2 n c n2 c2 l x.2 _ E1 E2 hn hm))).mono ?_; rintro e w5 ⟨rfl, b5⟩)
            have hG5 := hGd.keep b5
            have d3 := hG5.box.cell
            have d9 := hG5.bst.cell
            have f9 := hG5.bst.frozen
            refine wpAnyIn_ready (rs := [0]) (by kernel_rfl) (by simp) ?_
            refine AllReadyIn.cons rfl (fun K hK => ?_) ?_
            · have hK' := hK; clear hK; have hK := hK'; clear hK'
              go_simp
              refine hK _ _ ?_
              clear hK K
              refine wpAnyIn_ready (rs := [4]) (by kernel_rfl) (by simp) ?_
              refine AllReadyIn.cons rfl (fun K hK => ?_) ?_
              · have hK' := hK; clear hK; have hK := hK'; clear hK'
                go_simp
                refine hK _ _ ?_
                clear hK K
                refine wpAnyIn_ready (rs := [5]) (by kernel_rfl) (by simp) ?_
                refine AllReadyIn.cons rfl (fun K hK => ?_) ?_
                · have hK' := hK; clear hK; have hK := hK'; clear hK'
                  go_simp
                  refine hK _ _ ?_
                  clear hK K
                  refine wpAnyIn_done (by kernel_rfl) ?_ _
                  have hmax : max ((best (beg l) pre : Nat) : Int) ((beg l x.2 : Nat) : Int) = ((best (beg l) (pre ++ [x]) : Nat) : Int) := by
                    simp only [best, List.foldl_append, List.foldl_cons, List.foldl_nil]; omega
                  rw [hmax]
                  have b5' : Below W.heap.size W w5 := ((Below.refl _ _).drew).trans b5
                  simp only [Exit.inBlock]
                  refine ⟨((keeps_below b5').trans (KeepsOthers.setCell _ _ _)).from _, ⟨(hpFar (by simp; omega)).trans (b5'.block _ ?_), (hpFar (by simp; omega)).trans (b5'.block _ ?_)⟩, hG5.set hb9w _⟩
                  · have := hgr.size; have := hl'; obtain ⟨o, h0, _⟩ := hL; have := (Array.getElem?_eq_some_iff.1 h0).1; omega
                  · have := hgr.size; have := hl'; obtain ⟨o, h0, _⟩ := hL; have := (Array.getElem?_eq_some_iff.1 h0).1; omega
                exact AllReadyIn.nil
              exact AllReadyIn.nil
            exact AllReadyIn.nil
          exact AllReadyIn.nil
        exact AllReadyIn.nil
      exact AllReadyIn.nil
    case done =>
      intro D W hD hI hK
      have c3 := hI.box.cell
      have c9 := hI.bst.cell
      have hfin : Ending.returned (.tuple #[.bool (((best (beg l) (seqs (head l) k) : Nat) : Int) == (n : Int)), .int .i64 ((best (beg l) (seqs (head l) k) : Nat) : Int), .int .i64 0]) = .returned (.tuple #[.bool (legalP k l).1, .int .i64 (legalP k l).2.1, .int .i64 (legalP k l).2.2]) := by
        have he : (((best (beg l) (seqs (head l) k) : Nat) : Int) == (n : Int)) = decide (best (beg l) (seqs (head l) k) = l.length) := by
          rw [hl1]
          by_cases h : best (beg l) (seqs (head l) k) = n
          · simp [h]
          · have h' : ¬ ((best (beg l) (seqs (head l) k) : Nat) : Int) = (n : Int) := by omega
            simp [h, h']
        rw [he]
        simp [legalP, hk]
      gi_wp2
      gi_region
      all_goals
        gi_wp2
        refine ⟨by simp, .inl ⟨_, _, rfl, run_takeDeferred hK, ?_⟩⟩
        refine ⟨_, results_tmp3 rfl _ _ _, ?_⟩
        exact ⟨hfin, (hI.bel.drew.trans (below_of_grown (grownBy_putObj' _ D _) hI.bel.size (fun g e => by cases e; omega)))⟩
  · have hE : errL N l = 2 := by simp [errL, hk]
    have hs1 : ES (w.alloc (.cells #[.slice A n c] 25)) A n l := SL.keep h1 ((Below.refl _ _).alloc (Nat.le_refl _) _)
    gi_wp2_with (refine ⟨trivial, ?_⟩; gi_at_call 24; refine (callsIn_wide.2 (allowed_any N A n c l _ hs1 hn)).mono ?_; rintro e w1 ⟨rfl, b1⟩; rw [hE])
    refine ⟨_, results_tmp3 rfl _ _ _, ?_⟩
    exact ⟨by simp [legalP, hk], ((Below.refl w.heap.size w).alloc (Nat.le_refl _) _).trans (b1.mono (by simp))⟩
end Go.Proofs.YthmkfbabacehnaaDoor
