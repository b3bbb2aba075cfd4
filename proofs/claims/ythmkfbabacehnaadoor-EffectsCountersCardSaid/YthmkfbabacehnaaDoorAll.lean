/- All whole sequences: the program's. -/
import Derived.Test.YthmkfbabacehnaaDoorRAll
namespace Go.Proofs.YthmkfbabacehnaaDoor
open Go.RowKit Go.Shelf
set_option linter.unusedSimpArgs false
set_option linter.unusedVariables false
set_option linter.unusedSectionVars false
set_option maxRecDepth 10000
attribute [local go_sem] Oper.semAt_some
attribute [local go_sem ↓] hideAppend
structure LA (w : World) (b4 q : Nat) (s k : Int) (A : Option Addr) (n c : Nat) (xs : List (Option Addr × Nat × Nat)) (ls : List (List Ef)) (W : World) : Prop where
  all : LLS w A n c xs ls W
  ob : Boxed W b4 35 (.slice A n c)
  bs : Boxed W q 3 (.int .i64 s)
  bn : Boxed W (q + 1) 3 (.int .i64 k)
theorem LA.grown {w W W' : World} {b4 q B : Nat} {s k : Int} {A : Option Addr} {n c : Nat} {xs : List (Option Addr × Nat × Nat)} {ls : List (List Ef)} {row : Option Nat} (h : LA w b4 q s k A n c xs ls W) (hg : W.grownBy W' row) (hr : ∀ r, row = some r → B ≤ r ∧ ∃ o : Obj, W.heap[r]? = some o ∧ o.isCells = false) (hB : b4 < B) (hwB : w.heap.size ≤ B) (hq : q + 1 < B) : LA w b4 q s k A n c xs ls W' := by
  refine ⟨h.all.frozen hg hr hwB, (hg.block _ h.ob.lt (fun e => ?_)).trans h.ob, (hg.block _ h.bs.lt (fun e => ?_)).trans h.bs, (hg.block _ h.bn.lt (fun e => ?_)).trans h.bn⟩
  · have := (hr _ e.symm).1; omega
  · have := (hr _ e.symm).1; omega
  · have := (hr _ e.symm).1; omega
theorem LA.pushed {w W W' : World} {b4 q : Nat} {s k : Int} {A A' : Option Addr} {n c c' : Nat} {xs ys : List (Option Addr × Nat × Nat)} {ls ms : List (List Ef)} (h : LA w b4 q s k A n c xs ls W) (h2 : LLS w A' (n + 1) c' ys ms W') (hg : W.grownBy W' (rowOf A)) (hw : w.heap.size ≤ b4) (hq : b4 < q) :
    Boxed W' b4 35 (.slice A n c) ∧ LA w b4 q s k A' (n + 1) c' ys ms (W'.setCell ⟨b4, 0, none⟩ (.slice A' (n + 1) c')) ∧ KeepsOthers W (W'.setCell ⟨b4, 0, none⟩ (.slice A' (n + 1) c')) ∧ KB (q + 1) q W (W'.setCell ⟨b4, 0, none⟩ (.slice A' (n + 1) c')) := by
  have e1 : Boxed W' b4 35 (.slice A n c) := (hg.block _ h.ob.lt (fun e => own_rowNe h.all.own h.ob (by decide) e.symm)).trans h.ob
  have e2 := hg.block _ h.bs.lt (fun e => own_rowNe h.all.own h.bs (by decide) e.symm)
  have e3 := hg.block _ h.bn.lt (fun e => own_rowNe h.all.own h.bn (by decide) e.symm)
  have f2 : (W'.setCell ⟨b4, 0, none⟩ (.slice A' (n + 1) c')).heap[q]? = W.heap[q]? := (hpFar (by simp; omega)).trans e2
  have f3 : (W'.setCell ⟨b4, 0, none⟩ (.slice A' (n + 1) c')).heap[q + 1]? = W.heap[q + 1]? := (hpFar (by simp; omega)).trans e3
  exact ⟨e1, ⟨h2.setBox e1 hw (by decide) (by decide) _, e1.set _, f2.trans h.bs, f3.trans h.bn⟩, (KeepsOthers.of_grownBy hg (fun j o hj ho => own_cells h.all.own j o hj ho)).trans (KeepsOthers.setCell _ _ _), f3, f2⟩
set_option maxRecDepth 100000 in
set_option maxHeartbeats 8000000 in
theorem all_any (N : Int) (w : World) : Calls Tryd.prog 12 #[.int .i64 N] w fun e w' => ∃ A n c xs, e = .returned (.tuple #[.slice A n c, .int .i64 (allS N).2]) ∧ LLS w A n c xs (allS N).1 w' := by
  refine (callsIn_wide (n := 5)).1 ?_
  refine callsIn_of_wp_marks Tryd.func12 rfl trivial ?_ rfl
  simp only [Tryd.ntmps12, List.size_toArray, List.length_cons, List.length_nil, Nat.reduceAdd, Nat.reduceSub, Array.replicate_succ, Array.replicate_zero, List.push_toArray, List.append_toArray, List.nil_append, List.cons_append]
  by_cases hN : 1 ≤ N ∧ N ≤ 8
  · obtain ⟨k, rfl⟩ : ∃ k : Nat, N = k := ⟨N.toNat, by omega⟩
    have hk8 : 1 ≤ k ∧ k ≤ 8 := by omega
    have hz := Lib.hid (allS_ok hk8)
    obtain ⟨N1, N2⟩ := hN
    gi_wp2_with (refine ⟨trivial, ?_⟩; gi_at_call 23; refine (wholeF_in _ _ _ _).mono ?_; rintro e w2 ⟨rfl, rfl⟩)
    have hbel : Below w.heap.size w (((w.alloc (.cells #[.slice none 0 0] 35)).alloc (.cells #[.int .i64 1] 3)).alloc (.cells #[.int .i64 (k : Int)] 3)) := (((Below.refl w.heap.size w).alloc (Nat.le_refl _) _).alloc (by simp) _).alloc (by simp; omega) _
    have hO := ((Boxed.new w 35 (.slice none 0 0)).alloc (.cells #[.int .i64 1] 3)).alloc (.cells #[.int .i64 (k : Int)] 3)
    have hS := (Boxed.new (w.alloc (.cells #[.slice none 0 0] 35)) 3 (.int .i64 1)).alloc (.cells #[.int .i64 (k : Int)] 3)
    have hB := Boxed.new ((w.alloc (.cells #[.slice none 0 0] 35)).alloc (.cells #[.int .i64 1] 3)) 3 (.int .i64 (k : Int))
    rw [World.size_alloc] at hS hB
    rw [World.size_alloc] at hB
    have hsz : (((w.alloc (.cells #[.slice none 0 0] 35)).alloc (.cells #[.int .i64 1] 3)).alloc (.cells #[.int .i64 (k : Int)] 3)).heap.size = w.heap.size + 3 := by simp
    have hI : LA w w.heap.size (w.heap.size + 1) 1 k none 0 0 [] [] (((w.alloc (.cells #[.slice none 0 0] 35)).alloc (.cells #[.int .i64 1] 3)).alloc (.cells #[.int .i64 (k : Int)] 3)) := ⟨LLS.nil hbel, hO, hS, hB⟩
    generalize ((w.alloc (.cells #[.slice none 0 0] 35)).alloc (.cells #[.int .i64 1] 3)).alloc (.cells #[.int .i64 (k : Int)] 3) = W2 at *
    clear hO hbel
    refine wpIn_rangeMem rfl (by omega) (gf := 39) (lb := #[.pointer (some ⟨w.heap.size + 1 + 1, 0, none⟩), .pointer (some ⟨w.heap.size + 1, 0, none⟩)]) rfl trivial (enters_of Tryd.func39 (by kernel_rfl) rfl)
      (whole_seq _ (w.heap.size + 1 + 1) (w.heap.size + 1) 1 k (by omega) (by omega) _ hB hS) (fun A => ⟨rfl, rfl⟩) (fun h h' => ⟨h'.1.trans h.1, h'.2.trans h.2⟩) ?kg (fun x vs W0 W1 h => by obtain ⟨A', n', c', rfl, _⟩ := h; rfl) ?ro
      (fun pre W => ∃ A1 c1 xs, LA w w.heap.size (w.heap.size + 1) 1 k A1 pre.length c1 xs (pre.map (·.2)) W) (fun _ _ _ => False) ?own (fun _ => fun _ _ _ _ h => h.elim) ⟨none, 0, [], hI⟩
      (fun vs => { tmps := #[.int .i64 k, undef, .slice none 0 0, .int .i64 0,
          .pointer (some ⟨w.heap.size, 0, none⟩), undef, vs.getD 1 undef, .int .i64 k,
          .bool (decide ((k : Int) < 1)), .bool (decide ((k : Int) < 1)), .int .i64 k,
          .bool (decide (8 < (k : Int))), .bool (decide ((k : Int) < 1) || decide (8 < (k : Int))), .int .i64 k,
          .func (.func 39) #[] #[.pointer (some ⟨w.heap.size + 1 + 1, 0, none⟩), .pointer (some ⟨w.heap.size + 1, 0, none⟩)],
          vs.getD 0 undef, vs.getD 1 undef, undef, undef, undef, undef, undef], defers := [] }) ?assign ?body ?done (fun _ _ _ _ _ _ _ _ h => h.elim)
    case kg =>
      intro X Y row hg hr hX
      constructor
      · refine hg.block _ (by omega) (fun e => ?_)
        have := (hr _ e.symm).1
        omega
      · refine hg.block _ (by omega) (fun e => ?_)
        have := (hr _ e.symm).1
        omega
    case ro =>
      rintro x vs W0 _ X Y row ⟨A', n', c', rfl, h1, h2, h3⟩ hg hr
      exact ⟨A', n', c', rfl, h1, h2, own_grown h3 hg (fun r e => (hr r e).2)⟩
    case own =>
      rintro pre X Y row ⟨A1, c1, xs, h⟩ hg hr
      exact ⟨A1, c1, xs, h.grown hg hr (by omega) (by omega) (by omega)⟩
    case assign =>
      rintro l' x vs W0 W K ⟨A', n', c', rfl, h1, h2, h3⟩ hK
      gi_wp2
      exact hK
    case body =>
      rintro l' pre x rest vs W0 W hxs hl' hL0 hgr ⟨_, _, _, hI0⟩ ⟨A1, c1, xs, hI⟩ ⟨A2, n2, c2, rfl, hx1, hx2, hown⟩
      have hx : OwnE w A2 n2 c2 x.2 W := ⟨hI.all.bel, ownsRow_re hown hI0.all.bel.size, hx1, hx2⟩
      have hpl : pre.length ≤ 100 := by
        have e3 : (seqs 1 k).length = k + 2 := by simp [seqs]
        rw [hxs] at e3
        simp at e3
        omega
      obtain ⟨A3, c3, W3, hrun, hP, hg3⟩ := hI.all.push hx (by omega) 1
      obtain ⟨e1, hQ, hKp, hKb⟩ := hI.pushed hP hg3 (Nat.le_refl _) (by omega)
      have c9 := hI.ob.cell
      have d9 := e1.cell
      have g9 := e1.frozen
      have hfin := Lib.hid (show KeepsFrom W2.heap.size W (W3.setCell ⟨w.heap.size, 0, none⟩ (.slice A3 (pre.length + 1) c3)) ∧ KB (w.heap.size + 1 + 1) (w.heap.size + 1) W (W3.setCell ⟨w.heap.size, 0, none⟩ (.slice A3 (pre.length + 1) c3)) ∧ ∃ A1 c1 xs, LA w w.heap.size (w.heap.size + 1) 1 k A1 (pre ++ [x]).length c1 xs ((pre ++ [x]).map (·.2)) (W3.setCell ⟨w.heap.size, 0, none⟩ (.slice A3 (pre.length + 1) c3)) from
        ⟨hKp.from _, hKb, A3, c3, _, by rw [List.length_append, List.map_append]; exact hQ⟩)
      replace hsz := Lib.hid hsz
      clear hQ hKp hKb hP hI hI0 hx hown hg3
      gi_wp2
      exact hfin.out
    case done =>
      rintro D W hD ⟨A1, c1, xs, hI⟩ hK
      have c9 := hI.ob.cell
      have hb := below_of_grown (grownBy_putObj' W D (.deferred none)) hI.all.bel.size (fun g e => by cases e; omega)
      have hF := hI.all.frozen (B := W2.heap.size) (grownBy_putObj' W D (.deferred none)) (fun r e => by cases e; exact ⟨hD, _, hK, rfl⟩) (by omega)
      gi_wp2
      refine ⟨by simp, .inl ⟨_, _, rfl, run_takeDeferred hK, ?_⟩⟩
      refine ⟨_, results_tmp2 rfl _ _ _, ?_⟩
      have hms : (seqs 1 k).map (·.2) = seqAs (k + 1) ++ [seqD 1 k] := by simp [seqs, seqAs, Function.comp_def]
      rw [hms] at hF
      exact ⟨A1, (seqs 1 k).length, c1, xs, by have q := hz.out; simp [q], by have q := hz.out; rw [q]; exact hF⟩
  · have hz := allS_no hN
    have hw : N < 1 ∨ 8 < N := by omega
    rcases hw with hw | hw
    all_goals
      gi_wp2
      refine ⟨_, results_tmp2 rfl _ _ _, ?_⟩
      exact ⟨none, 0, 0, [], by simp [hz], by rw [hz]; exact LLS.nil (Below.refl _ _)⟩
end Go.Proofs.YthmkfbabacehnaaDoor
