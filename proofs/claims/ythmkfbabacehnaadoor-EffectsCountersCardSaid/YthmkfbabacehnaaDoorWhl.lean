/- Whole: the program's. -/
import Derived.Test.YthmkfbabacehnaaDoorLegal
import Derived.Test.YthmkfbabacehnaaDoorEqE
namespace Go.Proofs.YthmkfbabacehnaaDoor
open Go.RowKit Go.Shelf
set_option linter.unusedSimpArgs false
set_option linter.unusedVariables false
set_option linter.unusedSectionVars false
set_option maxRecDepth 10000
attribute [local go_sem] Oper.semAt_some
/-- What Whole holds: the box of the list, the three results. -/
structure LH (w : World) (v v1 v2 v3 : Value) (W : World) : Prop where
  bel : Below w.heap.size w W
  box : Boxed W w.heap.size 25 v
  r1 : Boxed W (w.heap.size + 1) 3 v1
  r2 : Boxed W (w.heap.size + 1 + 1) 4 v2
  r3 : Boxed W (w.heap.size + 1 + 1 + 1) 28 v3
theorem LH.keep {w W W' : World} {v v1 v2 v3 : Value} (h : LH w v v1 v2 v3 W) (hb : Below W.heap.size W W') : LH w v v1 v2 v3 W' :=
  ⟨h.bel.trans (hb.mono h.bel.size), (hb.block _ h.box.lt).trans h.box, (hb.block _ h.r1.lt).trans h.r1, (hb.block _ h.r2.lt).trans h.r2, (hb.block _ h.r3.lt).trans h.r3⟩
theorem LH.grown {w W W' : World} {v v1 v2 v3 : Value} {B : Nat} {row : Option Nat} (h : LH w v v1 v2 v3 W) (hg : W.grownBy W' row) (hr : ∀ r, row = some r → B ≤ r ∧ ∃ o : Obj, W.heap[r]? = some o ∧ o.isCells = false) (hwB : w.heap.size + 1 + 1 + 1 < B) : LH w v v1 v2 v3 W' := by
  have hb := below_of_grown (base := w.heap.size) hg h.bel.size (fun g e => by have := (hr g e).1; omega)
  refine ⟨h.bel.trans hb, (hg.block _ h.box.lt (fun e => ?_)).trans h.box, (hg.block _ h.r1.lt (fun e => ?_)).trans h.r1, (hg.block _ h.r2.lt (fun e => ?_)).trans h.r2, (hg.block _ h.r3.lt (fun e => ?_)).trans h.r3⟩
  all_goals
    have := (hr _ e.symm).1; omega
theorem LH.set1 {w W : World} {v v1 v2 v3 : Value} (h : LH w v v1 v2 v3 W) (y : Value) : LH w v y v2 v3 (W.setCell ⟨w.heap.size + 1, 0, none⟩ y) :=
  ⟨Below.setCell h.bel (by simp <;> omega) _, (hpFar (by simp <;> omega)).trans h.box, h.r1.set _, (hpFar (by simp <;> omega)).trans h.r2, (hpFar (by simp <;> omega)).trans h.r3⟩
theorem LH.set2 {w W : World} {v v1 v2 v3 : Value} (h : LH w v v1 v2 v3 W) (y : Value) : LH w v v1 y v3 (W.setCell ⟨w.heap.size + 1 + 1, 0, none⟩ y) :=
  ⟨Below.setCell h.bel (by simp <;> omega) _, (hpFar (by simp <;> omega)).trans h.box, (hpFar (by simp <;> omega)).trans h.r1, h.r2.set _, (hpFar (by simp <;> omega)).trans h.r3⟩
theorem LH.set3 {w W : World} {v v1 v2 v3 : Value} (h : LH w v v1 v2 v3 W) (y : Value) : LH w v v1 v2 y (W.setCell ⟨w.heap.size + 1 + 1 + 1, 0, none⟩ y) :=
  ⟨Below.setCell h.bel (by simp <;> omega) _, (hpFar (by simp <;> omega)).trans h.box, (hpFar (by simp <;> omega)).trans h.r1, (hpFar (by simp <;> omega)).trans h.r2, h.r3.set _⟩
theorem find_none {l : List Ef} {xs : List (Int × List Ef)} (h : ∀ y ∈ xs, ¬ l = y.2) : xs.find? (fun m => decide (l = m.2)) = none := by
  rw [List.find?_eq_none]; intro y hy; simp [h y hy]
theorem find_here {l : List Ef} {pre rest : List (Int × List Ef)} {x : Int × List Ef} (h : ∀ y ∈ pre, ¬ l = y.2) (hx : l = x.2) : (pre ++ x :: rest).find? (fun m => decide (l = m.2)) = some x := by
  rw [List.find?_append, find_none h]
  simp [hx]
theorem wholeP_none {n : Int} {l : List Ef} (hk : okL n l = true) (h : ∀ y ∈ seqs (head l) n.toNat, ¬ l = y.2) : wholeP n l = (0, false, 0) := by
  unfold wholeP; rw [if_pos hk, find_none h]
theorem wholeP_here {n : Int} {l : List Ef} (hk : okL n l = true) {pre rest : List (Int × List Ef)} {x : Int × List Ef} (hs : seqs (head l) n.toNat = pre ++ x :: rest) (h : ∀ y ∈ pre, ¬ l = y.2) (hx : l = x.2) : wholeP n l = (x.1, true, 0) := by
  unfold wholeP; rw [if_pos hk, hs, find_here h hx]
set_option maxRecDepth 100000 in
set_option maxHeartbeats 8000000 in
theorem whole_any (N : Int) (A : Option Addr) (n c : Nat) (l : List Ef) (w : World) (h1 : ES w A n l) (hn : n ≤ 70368744177664) :
    Calls Tryd.prog 13 #[.int .i64 N, .slice A n c] w fun e w' => e = .returned (.tuple #[.int .i64 (wholeP N l).1, .bool (wholeP N l).2.1, .int .i64 (wholeP N l).2.2]) ∧ Below w.heap.size w w' := by
  have hl1 := h1.1
  refine (callsIn_wide (n := 5)).1 ?_
  refine callsIn_of_wp_marks Tryd.func13 rfl trivial ?_ rfl
  simp only [Tryd.ntmps13, List.size_toArray, List.length_cons, List.length_nil, Nat.reduceAdd, Nat.reduceSub, Array.replicate_succ, Array.replicate_zero, List.push_toArray, List.append_toArray, List.nil_append, List.cons_append]
  have hH0 : LH w (.slice A n c) (.int .i64 0) (.bool false) (.int .i64 0) ((((w.alloc (.cells #[.slice A n c] 25)).alloc (.cells #[.int .i64 0] 3)).alloc (.cells #[.bool false] 4)).alloc (.cells #[.int .i64 0] 28)) := by
    refine ⟨((((Below.refl w.heap.size w).alloc (Nat.le_refl _) _).alloc (by simp) _).alloc (by simp; omega) _).alloc (by simp; omega) _, ((Boxed.new w _ _).alloc _ |>.alloc _ |>.alloc _), ?_, ?_, ?_⟩
    · have := ((Boxed.new (w.alloc (.cells #[.slice A n c] 25)) 3 (.int .i64 0)).alloc (.cells #[.bool false] 4)).alloc (.cells #[.int .i64 0] 28)
      rwa [World.size_alloc] at this
    · have := (Boxed.new ((w.alloc (.cells #[.slice A n c] 25)).alloc (.cells #[.int .i64 0] 3)) 4 (.bool false)).alloc (.cells #[.int .i64 0] 28)
      rwa [World.size_alloc, World.size_alloc] at this
    · have := (Boxed.new (((w.alloc (.cells #[.slice A n c] 25)).alloc (.cells #[.int .i64 0] 3)).alloc (.cells #[.bool false] 4)) 28 (.int .i64 0))
      rwa [World.size_alloc, World.size_alloc, World.size_alloc] at this
  have hs1 : ES ((((w.alloc (.cells #[.slice A n c] 25)).alloc (.cells #[.int .i64 0] 3)).alloc (.cells #[.bool false] 4)).alloc (.cells #[.int .i64 0] 28)) A n l := SL.keep h1 hH0.bel
  by_cases hk : okL N l = true
  · have hE : errL N l = 0 := by simp [errL, hk]
    have hH : sagaL N l = head l := by simp [sagaL, hk]
    have hn8 := (okL_iff N l).1 hk
    replace hn8 := hn8.1
    obtain ⟨k, rfl⟩ : ∃ k : Nat, N = k := ⟨N.toNat, by omega⟩
    gi_wp2_with (refine ⟨trivial, ?_⟩; gi_at_call 24; refine (callsIn_wide.2 (allowed_any k A n c l _ hs1 hn)).mono ?_; rintro e W1 ⟨rfl, b1⟩; rw [hE, hH]; replace hH0 := hH0.keep b1; clear hs1 b1)
    gi_wp2_with (refine ⟨trivial, ?_⟩; gi_at_call 23; refine (wholeF_in _ _ _ _).mono ?_; rintro e w2 ⟨rfl, rfl⟩)
    have hs3 : w.heap.size + 1 + 1 + 1 < W1.heap.size := hH0.r3.lt
    generalize hq : W1.heap.size = q at *
    have hB : Boxed ((W1.alloc (.cells #[.int .i64 (head l)] 3)).alloc (.cells #[.int .i64 (k : Int)] 3)) (q + 1) 3 (.int .i64 (k : Int)) := by
      have := Boxed.new (W1.alloc (.cells #[.int .i64 (head l)] 3)) 3 (.int .i64 (k : Int))
      rwa [World.size_alloc, hq] at this
    have hS : Boxed ((W1.alloc (.cells #[.int .i64 (head l)] 3)).alloc (.cells #[.int .i64 (k : Int)] 3)) q 3 (.int .i64 (head l)) := by
      have := (Boxed.new W1 3 (.int .i64 (head l))).alloc (.cells #[.int .i64 (k : Int)] 3)
      rwa [hq] at this
    have hG2 := (hH0.keep ((Below.refl _ _).alloc (Nat.le_refl _) (.cells #[.int .i64 (head l)] 3))).keep ((Below.refl _ _).alloc (Nat.le_refl _) (.cells #[.int .i64 (k : Int)] 3))
    have hsz : ((W1.alloc (.cells #[.int .i64 (head l)] 3)).alloc (.cells #[.int .i64 (k : Int)] 3)).heap.size = q + 2 := by simp [hq]
    generalize (W1.alloc (.cells #[.int .i64 (head l)] 3)).alloc (.cells #[.int .i64 (k : Int)] 3) = W2 at *
    clear hH0
    have hk8 : k ≤ 8 := by omega
    refine wpIn_rangeMem rfl (by omega) (gf := 39) (lb := #[.pointer (some ⟨q + 1, 0, none⟩), .pointer (some ⟨q, 0, none⟩)]) rfl trivial (enters_of Tryd.func39 (by kernel_rfl) rfl)
      (whole_seq _ (q + 1) q (head l) k hk8 (by omega) _ hB hS) (fun A => ⟨rfl, rfl⟩) (fun h h' => ⟨h'.1.trans h.1, h'.2.trans h.2⟩) ?kg (fun x vs W0 W1 h => by obtain ⟨A', n', c', rfl, _⟩ := h; rfl) ?ro
      (fun pre W => LH w (.slice A n c) (.int .i64 0) (.bool false) (.int .i64 0) W ∧ ∀ y ∈ pre, ¬ l = y.2)
      (fun cd pre W => cd = .ret ∧ ∃ pre' x, pre = pre' ++ [x] ∧ LH w (.slice A n c) (.int .i64 x.1) (.bool true) (.int .i64 0) W ∧ (∀ y ∈ pre', ¬ l = y.2) ∧ l = x.2) ?own ?ownx ⟨hG2, by simp⟩
      (fun vs => { tmps := #[.int .i64 k, .slice A n c, undef, .pointer (some ⟨w.heap.size, 0, none⟩), .pointer (some ⟨w.heap.size + 1, 0, none⟩), .pointer (some ⟨w.heap.size + 1 + 1, 0, none⟩), .pointer (some ⟨w.heap.size + 1 + 1 + 1, 0, none⟩), .int .i64 (head l),
          .int .i64 0, vs.getD 0 undef, vs.getD 1 undef, .tuple #[.int .i64 (head l), .int .i64 0],
          .int .i64 k, .slice A n c, .tuple #[.int .i64 (head l), .int .i64 0], .int .i64 (head l), .int .i64 0, .int .i64 0, .bool false, undef, .int .i64 (head l), .int .i64 k,
          .func (.func 39) #[] #[.pointer (some ⟨q + 1, 0, none⟩), .pointer (some ⟨q, 0, none⟩)],
          vs.getD 0 undef, vs.getD 1 undef, undef, undef, undef, undef], defers := [] }) ?assign ?body ?done ?stop
    case kg =>
      intro X Y row hg hr hX
      constructor
      · refine hg.block _ (by omega) (fun e => ?_)
        have := (hr _ e.symm).1
        omega
      · refine hg.block _ (by omega) (fun e => ?_)
        have := (hr _ e.symm).1
        omega
    case ro =>
      rintro x vs W0 _ X Y row ⟨A', n', c', rfl, h1, h2, h3⟩ hg hr
      exact ⟨A', n', c', rfl, h1, h2, own_grown h3 hg (fun r e => (hr r e).2)⟩
    case own =>
      intro pre X Y row h hg hr
      exact ⟨h.1.grown hg hr (by omega), h.2⟩
    case ownx =>
      rintro cd pre X Y row ⟨hc, pre', x, he, h, hh⟩ hg hr
      exact ⟨hc, pre', x, he, h.grown hg hr (by omega), hh⟩
    case assign =>
      rintro l' x vs W0 W K ⟨A', n', c', rfl, h1, h2, h3⟩ hK
      gi_wp2
      exact hK
    case body =>
      rintro l' pre x rest vs W0 W hxs hl' hL hgr hI0 ⟨hI, hpre⟩ ⟨A2, n2, c2, rfl, hx1, hx2, hown⟩
      have hm : n2 ≤ 70368744177664 := by
        have := seqs_len (s := head l) (k := k) (m := x) (by rw [hxs]; simp)
        omega
      have hWq : q + 2 ≤ W.heap.size := by
        have := hgr.size; obtain ⟨o, h0, _⟩ := hL; have := (Array.getElem?_eq_some_iff.1 h0).1; omega
      have E1 : ES W A n l := SL.keep h1 hI.bel
      have E2 : ES W A2 n2 x.2 := SL.of_own encE_len hown hx1
      have c3 := hI.box.cell
      have hne := Lib.hid hpre
      clear hpre hI0
      by_cases hlx : l = x.2
      · have hd : decide (l = x.2) = true := by simp [hlx]
        gi_wp2_with (refine ⟨trivial, ?_⟩; gi_at_call 25; refine (CallsIn.inRound l' (callsIn_wide.2 (equal_any A A2 n c n2 c2 l x.2 _ E1 E2 hn hm))).mono ?_; rintro e w5 ⟨rfl, b5⟩; rw [hd]; have hI5 := hI.keep b5; have p1 := hI5.r1.frozen; have p2 := hI5.r2.frozen; have p3 := hI5.r3.frozen; have q1 := hI5.r1.cell; have q2 := hI5.r2.cell; have q3 := hI5.r3.cell)
        exact ⟨((keeps_below b5).trans ((KeepsOthers.setCell _ _ _).trans ((KeepsOthers.setCell _ _ _).trans (KeepsOthers.setCell _ _ _)))).from _, rfl, pre, x, rfl, ((hI5.set1 _).set2 _).set3 _, hne.out, hlx⟩
      · have hd : decide (l = x.2) = false := by simp [hlx]
        gi_wp2_with (refine ⟨trivial, ?_⟩; gi_at_call 25; refine (CallsIn.inRound l' (callsIn_wide.2 (equal_any A A2 n c n2 c2 l x.2 _ E1 E2 hn hm))).mono ?_; rintro e w5 ⟨rfl, b5⟩; rw [hd]; have hI5 := hI.keep b5)
        refine ⟨(keeps_below b5).from _, ⟨b5.block _ (by omega), b5.block _ (by omega)⟩, hI5, ?_⟩
        intro y hy
        rw [List.mem_append, List.mem_singleton] at hy
        rcases hy with hy | rfl
        · exact hne.out y hy
        · exact hlx
    case done =>
      rintro D W hD ⟨hI, hpre⟩ hK
      have p1 := hI.r1.frozen
      have p2 := hI.r2.frozen
      have p3 := hI.r3.frozen
      have q1 := hI.r1.cell
      have q2 := hI.r2.cell
      have q3 := hI.r3.cell
      have hz := Lib.hid (wholeP_none hk hpre)
      clear hpre
      gi_wp2
      have hL := ((hI.set1 (.int .i64 0)).set2 (.bool false)).set3 (.int .i64 0)
      have hK' : (((W.setCell ⟨w.heap.size + 1, 0, none⟩ (.int .i64 0)).setCell ⟨w.heap.size + 1 + 1, 0, none⟩ (.bool false)).setCell ⟨w.heap.size + 1 + 1 + 1, 0, none⟩ (.int .i64 0)).heap[D]? = some (.deferred (some [])) := by
        rw [hpFar (by simp; omega), hpFar (by simp; omega), hpFar (by simp; omega)]; exact hK
      generalize ((W.setCell ⟨w.heap.size + 1, 0, none⟩ (.int .i64 0)).setCell ⟨w.heap.size + 1 + 1, 0, none⟩ (.bool false)).setCell ⟨w.heap.size + 1 + 1 + 1, 0, none⟩ (.int .i64 0) = X at *
      refine ⟨by simp, .inl ⟨_, _, rfl, run_takeDeferred hK', ?_⟩⟩
      have hF := hL.grown (B := W2.heap.size) (grownBy_putObj' X D (.deferred none)) (fun r e => by cases e; exact ⟨hD, _, hK', rfl⟩) (by omega)
      clear q1 q2 q3 p1 p2 p3
      have q1 := hF.r1.cell
      have q2 := hF.r2.cell
      have q3 := hF.r3.cell
      refine ⟨.tuple #[.int .i64 0, .bool false, .int .i64 0], by simp [results, Tryd.results13, go_sem, *], ?_⟩
      exact ⟨by have q := hz.out; simp [q], hF.bel⟩
    case stop =>
      rintro D cd pre x rest W hD hxs ⟨rfl, pre', x', he, hI, hne, hlx⟩ hK
      obtain ⟨rfl, hx⟩ := List.append_inj he (by have := congrArg List.length he; simpa using this)
      simp only [List.cons.injEq, and_true] at hx
      subst hx
      have q1 := hI.r1.cell
      have q2 := hI.r2.cell
      have q3 := hI.r3.cell
      have hz := Lib.hid (wholeP_here (n := (k : Int)) hk hxs hne hlx)
      clear hlx hne he
      gi_wp2
      refine ⟨by simp, .inl ⟨_, _, rfl, run_takeDeferred hK, ?_⟩⟩
      have hF := hI.grown (B := W2.heap.size) (grownBy_putObj' W D (.deferred none)) (fun r e => by cases e; exact ⟨hD, _, hK, rfl⟩) (by omega)
      clear q1 q2 q3
      have q1 := hF.r1.cell
      have q2 := hF.r2.cell
      have q3 := hF.r3.cell
      refine ⟨.tuple #[.int .i64 x.1, .bool true, .int .i64 0], by simp [results, Tryd.results13, go_sem, *], ?_⟩
      exact ⟨by have q := hz.out; simp [q], hF.bel⟩
  · have hE : errL N l = 2 := by simp [errL, hk]
    gi_wp2_with (refine ⟨trivial, ?_⟩; gi_at_call 24; refine (callsIn_wide.2 (allowed_any N A n c l _ hs1 hn)).mono ?_; rintro e W1 ⟨rfl, b1⟩; rw [hE]; replace hH0 := hH0.keep b1; clear hs1 b1; have p1 := hH0.r1.frozen; have p2 := hH0.r2.frozen; have p3 := hH0.r3.frozen; have q1 := hH0.r1.cell; have q2 := hH0.r2.cell; have q3 := hH0.r3.cell)
    have rr1 := hH0.r1.set (.int .i64 0)
    refine ⟨.tuple #[.int .i64 0, .bool false, .int .i64 2], by simp [results, Tryd.results13, go_sem, *], ?_⟩
    exact ⟨by simp [wholeP, hk], (((hH0.set1 _).set2 _).set3 _).bel⟩
end Go.Proofs.YthmkfbabacehnaaDoor
