/- Next: what it holds. -/
import Derived.Test.YthmkfbabacehnaaDoorWhl
import Derived.Test.YthmkfbabacehnaaDoorOrdE
import Derived.Test.YthmkfbabacehnaaDoorRound
namespace Go.Proofs.YthmkfbabacehnaaDoor
open Go.RowKit Go.Shelf
set_option linter.unusedSimpArgs false
set_option linter.unusedVariables false
set_option linter.unusedSectionVars false
set_option maxRecDepth 10000
attribute [local go_sem] Oper.semAt_some
attribute [local go_sem ↓] hideAppend
/-- append of one effect, and which block turned. -/
theorem OwnE.push2 {w W : World} {A : Option Addr} {n c : Nat} {l : List Ef} (h : OwnE w A n c l W) (hn : n ≤ 1000000) (x : Ef) (d : Nat) :
    ∃ A' c' W', (appSem #[25, 25] 25 #[.slice A n c, .slice (some ⟨W.heap.size, 0, none⟩) 1 d]).run Tryd.prog (W.alloc (.cells #[.int .i64 x.1, .int .i64 x.2.1, .int .i64 x.2.2] 56)) = .ok (.slice A' (n + 1) c') W' ∧ OwnE w A' (n + 1) c' (l ++ [x]) W' ∧ W.grownBy W' (rowOf A) := by
  have hb0 := (Below.refl W.heap.size W).alloc (Nat.le_refl _) (.cells #[.int .i64 x.1, .int .i64 x.2.1, .int .i64 x.2.2] 56)
  have h' := h.keep hb0
  obtain ⟨A', c', w1, hrun, hcap, hown, hgr, hat⟩ := append_sl elemE encE_len encE_one (ty := 25) (d := d) h'.own h'.bel.size (es_one W x) (by omega) (by omega)
  exact ⟨A', c', w1, hrun, ⟨h'.bel.trans (below_of_grown hgr h'.bel.size fun g hg => (own_row h'.own g hg).1), hown, by simp [h.len], hcap⟩, (grown_any (grown_of hb0)).trans hgr⟩
/-- What Next holds: the box of the list, the box of the answer, the answer's row. -/
structure LN (w : World) (v : Value) (b11 : Nat) (A : Option Addr) (n c : Nat) (out : List Ef) (W : World) : Prop where
  bel : Below w.heap.size w W
  box : Boxed W w.heap.size 25 v
  ob : Boxed W b11 25 (.slice A n c)
  own : OwnE w A n c out W
  small : n ≤ 100
theorem LN.keep {w W W' : World} {v : Value} {b11 : Nat} {A : Option Addr} {n c : Nat} {out : List Ef} (h : LN w v b11 A n c out W) (hb : Below W.heap.size W W') : LN w v b11 A n c out W' :=
  ⟨h.bel.trans (hb.mono h.bel.size), (hb.block _ h.box.lt).trans h.box, (hb.block _ h.ob.lt).trans h.ob, h.own.keep hb, h.small⟩
theorem LN.grown {w W W' : World} {v : Value} {b11 B : Nat} {A : Option Addr} {n c : Nat} {out : List Ef} {row : Option Nat} (h : LN w v b11 A n c out W) (hg : W.grownBy W' row) (hr : ∀ r, row = some r → B ≤ r ∧ ∃ o : Obj, W.heap[r]? = some o ∧ o.isCells = false) (hB : b11 < B) (hwB : w.heap.size < B) : LN w v b11 A n c out W' := by
  have hb := below_of_grown (base := w.heap.size) hg h.bel.size (fun g e => by have := (hr g e).1; omega)
  refine ⟨h.bel.trans hb, (hg.block _ h.box.lt (fun e => ?_)).trans h.box, (hg.block _ h.ob.lt (fun e => ?_)).trans h.ob, ⟨h.own.bel.trans hb, own_grown h.own.own hg (fun r e => (hr r e).2), h.own.len, h.own.cap⟩, h.small⟩
  · have := (hr _ e.symm).1; omega
  · have := (hr _ e.symm).1; omega
/-- A row of effects is no box of another type. -/
theorem OwnE.rowNe {w W : World} {A : Option Addr} {n c : Nat} {l : List Ef} (h : OwnE w A n c l W) {b : Nat} {t : TypeId} {v : Value} (hb : Boxed W b t v) (ht : t ≠ 56) : rowOf A ≠ some b := by
  intro e
  rcases h.own.2 with ⟨e1, _⟩ | ⟨g, cp, cur, e1, _, hh, _⟩
  · simp only [Value.slice.injEq] at e1
    rw [e1.1] at e; cases e
  · simp only [Value.slice.injEq] at e1
    rw [e1.1] at e
    injection e with e
    have e : g = b := e
    subst e
    have hb' : W.heap[g]? = some (.cells #[v] t (0, 0)) := hb
    rw [hh] at hb'
    injection hb' with hb'
    injection hb' with _ h2 _
    exact ht h2.symm
theorem OwnE.rowCells {w W : World} {A : Option Addr} {n c : Nat} {l : List Ef} (h : OwnE w A n c l W) (j : Nat) (o : Obj) (hj : rowOf A = some j) (ho : W.heap[j]? = some o) : o.isCells = true := by
  rcases h.own.2 with ⟨e1, _⟩ | ⟨g, cp, cur, e1, _, hh, _⟩
  · simp only [Value.slice.injEq] at e1
    rw [e1.1] at hj; cases hj
  · simp only [Value.slice.injEq] at e1
    rw [e1.1] at hj
    injection hj with hj
    have hj : g = j := hj
    subst hj
    rw [hh] at ho
    injection ho with ho
    subst ho
    rfl
/-- LN, and the iterator's boxes. -/
structure LM (w : World) (v : Value) (b11 q : Nat) (s k : Int) (A : Option Addr) (n c : Nat) (out : List Ef) (W : World) : Prop extends LN w v b11 A n c out W where
  bs : Boxed W q 3 (.int .i64 s)
  bn : Boxed W (q + 1) 3 (.int .i64 k)
theorem LM.keep {w W W' : World} {v : Value} {b11 q : Nat} {s k : Int} {A : Option Addr} {n c : Nat} {out : List Ef} (h : LM w v b11 q s k A n c out W) (hb : Below W.heap.size W W') : LM w v b11 q s k A n c out W' :=
  ⟨h.toLN.keep hb, (hb.block _ h.bs.lt).trans h.bs, (hb.block _ h.bn.lt).trans h.bn⟩
theorem LM.grown {w W W' : World} {v : Value} {b11 q B : Nat} {s k : Int} {A : Option Addr} {n c : Nat} {out : List Ef} {row : Option Nat} (h : LM w v b11 q s k A n c out W) (hg : W.grownBy W' row) (hr : ∀ r, row = some r → B ≤ r ∧ ∃ o : Obj, W.heap[r]? = some o ∧ o.isCells = false) (hB : b11 < B) (hwB : w.heap.size < B) (hq : q + 1 < B) : LM w v b11 q s k A n c out W' := by
  refine ⟨h.toLN.grown hg hr hB hwB, (hg.block _ h.bs.lt (fun e => ?_)).trans h.bs, (hg.block _ h.bn.lt (fun e => ?_)).trans h.bn⟩
  · have := (hr _ e.symm).1; omega
  · have := (hr _ e.symm).1; omega
/-- The new row, and then the store into the box. -/
theorem LM.pushed {w W W' : World} {v : Value} {b11 q : Nat} {s k : Int} {A A' : Option Addr} {n c c' : Nat} {out : List Ef} {x : Ef} (h : LM w v b11 q s k A n c out W) (h2 : OwnE w A' (n + 1) c' (out ++ [x]) W') (hg : W.grownBy W' (rowOf A)) (hn : n < 100) (hw : w.heap.size < b11) (hq : b11 < q) :
    Boxed W' b11 25 (.slice A n c) ∧ LM w v b11 q s k A' (n + 1) c' (out ++ [x]) (W'.setCell ⟨b11, 0, none⟩ (.slice A' (n + 1) c')) := by
  have e0 := (hg.block _ h.box.lt (fun e => h.own.rowNe h.box (by decide) e.symm)).trans h.box
  have e1 : Boxed W' b11 25 (.slice A n c) := (hg.block _ h.ob.lt (fun e => h.own.rowNe h.ob (by decide) e.symm)).trans h.ob
  have e2 := (hg.block _ h.bs.lt (fun e => h.own.rowNe h.bs (by decide) e.symm)).trans h.bs
  have e3 := (hg.block _ h.bn.lt (fun e => h.own.rowNe h.bn (by decide) e.symm)).trans h.bn
  have hne := h2.rowNe e1 (by decide)
  have hbel : Below w.heap.size w (W'.setCell ⟨b11, 0, none⟩ (.slice A' (n + 1) c')) := Below.setCell h2.bel (by simp; omega) _
  refine ⟨e1, ⟨⟨hbel, (hpFar (by simp; omega)).trans e0, e1.set _, ⟨hbel, ?_, h2.len, h2.cap⟩, by omega⟩, (hpFar (by simp; omega)).trans e2, (hpFar (by simp; omega)).trans e3⟩⟩
  rcases h2.own.2 with ⟨d1, d2⟩ | ⟨g, cp, cur, d1, d2, hh, r⟩
  · exact ⟨h2.own.1, .inl ⟨d1, d2⟩⟩
  · refine ⟨h2.own.1, .inr ⟨g, cp, cur, d1, d2, (hpFar ?_).trans hh, r⟩⟩
    intro e
    apply hne
    simp only [Value.slice.injEq] at d1
    rw [d1.1, e]; rfl
theorem own_none (W : World) (base : Nat) : W.ownsRow base 56 3 (.slice none 0 0) 0 (flat encE ([] : List Ef)) := ⟨rfl, .inl ⟨rfl, rfl⟩⟩
def candF (l : List Ef) (ss : List (Int × List Ef)) : List Ef := ss.foldl (fun out m => cand l out m.2) []
theorem candF_snoc (l : List Ef) (pre : List (Int × List Ef)) (x : Int × List Ef) : candF l (pre ++ [x]) = cand l (candF l pre) x.2 := by simp [candF]
theorem cand_short {l out m : List Ef} (h : m.length ≤ l.length) : cand l out m = out := by
  unfold cand; rw [List.getElem?_eq_none (by omega)]
theorem cand_no {l out m : List Ef} (h : beg l m ≠ l.length) : cand l out m = out := by
  unfold cand; split
  · rw [if_neg (fun e => h e.1)]
  · rfl
theorem cand_in {l out m : List Ef} {x : Ef} (hx : m[l.length]? = some x) (h : x ∈ out) : cand l out m = out := by
  unfold cand; rw [hx]; simp only; rw [if_neg (fun e => e.2 h)]
theorem cand_new {l out m : List Ef} {x : Ef} (hx : m[l.length]? = some x) (hb : beg l m = l.length) (h : x ∉ out) : cand l out m = out ++ [x] := by
  unfold cand; rw [hx]; simp only; rw [if_pos ⟨hb, h⟩]
theorem cand_len (l out m : List Ef) : (cand l out m).length ≤ out.length + 1 := by
  unfold cand; split
  · split
    · simp
    · omega
  · omega
theorem candF_len' (l : List Ef) : ∀ (ss : List (Int × List Ef)) (out : List Ef), (ss.foldl (fun out m => cand l out m.2) out).length ≤ out.length + ss.length
  | [], out => by simp
  | m :: ss, out => by
    have h1 := candF_len' l ss (cand l out m.2)
    have h2 := cand_len l out m.2
    simp only [List.foldl_cons, List.length_cons]; omega
theorem candF_len (l : List Ef) (ss : List (Int × List Ef)) : (candF l ss).length ≤ ss.length := by
  have := candF_len' l ss []
  simpa [candF] using this
theorem seqs_count (s : Int) (k : Nat) : (seqs s k).length = k + 2 := by simp [seqs]
end Go.Proofs.YthmkfbabacehnaaDoor
