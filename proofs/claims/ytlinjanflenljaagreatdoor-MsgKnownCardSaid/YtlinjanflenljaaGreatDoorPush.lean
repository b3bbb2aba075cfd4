/- A writer grows by bytes: the append, and the store into the writer. -/
import Derived.Test.YtlinjanflenljaaGreatDoorDig
import Derived.Maps.AppendAt
namespace Go.Proofs.YtlinjanflenljaaGreatDoor
open Go.RowKit Go.Shelf
set_option linter.unusedSimpArgs false
set_option linter.unusedVariables false
attribute [local go_sem] Oper.semAt_some

def appSem (ts : Array TypeId) (ty : TypeId) (args : Array Value) : Sem Value := Builtin.append_ ts ty args
theorem hideAppend (ts : Array TypeId) (ty : TypeId) (args : Array Value) : Builtin.append_ ts ty args = appSem ts ty args := rfl
attribute [local go_sem ↓] hideAppend

theorem IsWr.grown {T : TypeId} {w w' : World} {g c : Nat} {A : Option Addr} {xs : List UInt8} {row : Option Nat} (h : IsWr T w g A c xs) (hg : w.grownBy w' row) (hr : ∀ r, row = some r → ∃ o : Obj, w.heap[r]? = some o ∧ o.isCells = false) : IsWr T w' g A c xs := by
  refine h.keep (S := fun k => row = some k) (Chg.of_grown hg fun k e => e) ?_ ?_
  · intro e
    obtain ⟨o, ho, hc⟩ := hr _ e
    rw [h.blk] at ho
    injection ho with ho
    subst ho
    cases hc
  · intro k hk e
    obtain ⟨o, ho, hc⟩ := hr _ e
    rcases h.own.2 with ⟨hv, _⟩ | ⟨k', cap, cur, hv, _, hh, _⟩
    · injection hv with hA; subst hA; cases hk
    · injection hv with hA
      subst hA
      injection hk with hk
      have hk : k' = k := hk
      subst hk
      rw [hh] at ho
      injection ho with ho
      subst ho
      cases hc
theorem byteInfo : (Tryz.prog.info? 5).map (fun i => (i.zero, i.size, i.bytes)) = some (some (.int .u8 0), 1, 1) := by kernel_rfl
/-- A writer's next state. -/
def WrTo (T : TypeId) (w : World) (g : Nat) (A : Option Addr) (ys : List UInt8) (w' : World) : Prop :=
  ∃ A' c', IsWr T w' g A' c' ys ∧ Moved w A A' ∧ Chg (wrS g A) w w'
/-- One byte more: the append, and the store into the writer. -/
theorem WrTo.push {T : TypeId} {w W : World} {g c : Nat} {A0 A : Option Addr} {xs : List UInt8} {x : UInt8} (hT : T ≠ 5) (h : IsWr T W g A c xs) (hm : Moved w A0 A) (hch : Chg (wrS g A0) w W) (hw : g < w.heap.size) (hl : xs.length + 1 ≤ 70368744177664) :
    ∃ g' cap w1, (appSem #[22, 22] 22 #[.slice A xs.length c, .slice (some ⟨W.heap.size, 0, none⟩) 1 1]).run Tryz.prog (W.alloc (.cells #[bv x] 5)) = .ok (.slice (some ⟨g', 0, none⟩) (xs.length + 1) cap) w1 ∧
      WrTo T w g A0 (xs ++ [x]) (w1.setCell ⟨g, 1, none⟩ (.slice (some ⟨g', 0, none⟩) (xs.length + 1) cap)) ∧ w1.heap[g]? = W.heap[g]? ∧ W.grownBy w1 (rowOf A) := by
  obtain ⟨i0, hi, hz0, hz1, hz2⟩ := info_parts byteInfo
  have hv : (Value.slice A xs.length c).ownBlock = rowOf A := own_rowOf A _ _
  obtain ⟨v', w1, hrun, hown, hgr, _, hat⟩ := run_append_own_at (P := Tryz.prog) (W.alloc (.cells #[bv x] 5)) 0 22 22 5 i0 (.int .u8 0) 1 1 Tryz.underlying22 hi hz0 hz1 hz2 rfl (by decide) _ _ _ (h.own.alloc (.cells #[bv x] 5)) ⟨W.heap.size, 0, none⟩ 1 1 [bv x] rfl
    (by intro j u hu; exact (cell_one_new W (bv x) _) j u hu) (by simp [bv, Value.oneCell']) (by unfold maxLen; omega) (by omega) (Nat.zero_le _)
  obtain ⟨g', cap, rfl⟩ := ownsRow_succ hown
  rw [hv] at hgr hat
  have hg1 : W.grownBy w1 (rowOf A) := ⟨hgr.os, hgr.tape, hgr.output, Nat.le_trans (by simp) hgr.size, fun k hk hn => (hgr.block k (by simp; omega) hn).trans (Below.heap_alloc W _ k hk)⟩
  have hne : rowOf A ≠ some g := h.rowNe hT h.blk hT
  have hgb : w1.heap[g]? = W.heap[g]? := hg1.block g h.lt (fun e => hne e.symm)
  refine ⟨g', cap, w1, hrun, ?_, hgb, hg1⟩
  have hg'g : g' ≠ g := by
    rintro rfl
    rcases hown.2 with ⟨e, _⟩ | ⟨k, cp, cur, e, _, hh, _⟩
    · cases e
    · simp only [Value.slice.injEq, Option.some.injEq, Addr.mk.injEq] at e
      obtain ⟨⟨rfl, _⟩, _⟩ := e
      rw [hgb, h.blk] at hh
      injection hh with hh
      injection hh with _ ht
      exact hT ht
  refine ⟨some ⟨g', 0, none⟩, cap, ⟨?_, ?_⟩, ?_, ?_⟩
  · have := hpSet (i := 1) (v := .slice (some ⟨g', 0, none⟩) (xs.length + 1) cap) (hgb.trans h.blk)
    simpa using this
  · have ho : w1.ownsRow 0 5 1 (.slice (some ⟨g', 0, none⟩) (xs ++ [x]).length cap) (xs ++ [x]).length (bvs (xs ++ [x])) := by
      rw [bvs_append, List.length_append]; exact hown
    refine ⟨ho.1, ?_⟩
    rcases ho.2 with e | ⟨k, cp, cur, e, hb, hh, rest⟩
    · exact .inl e
    · have e0 := e
      simp only [Value.slice.injEq, Option.some.injEq, Addr.mk.injEq] at e0
      obtain ⟨⟨rfl, _⟩, _⟩ := e0
      exact .inr ⟨g', cp, cur, e, hb, (hpFar hg'g).trans hh, rest⟩
  · have hat' : rowOf A = some g' ∨ g' = W.heap.size + 1 := by
      rcases hat with e | e
      · exact .inl e.symm
      · right; simp [Value.ownBlock] at e; exact e
    rcases hat' with e | e
    · rcases hm with e1 | ⟨k, e1, e2⟩
      · exact .inl (e.symm.trans e1)
      · exact .inr ⟨g', rfl, by rw [e] at e1; injection e1 with e1; omega⟩
    · exact .inr ⟨g', rfl, by rw [e]; exact Nat.le_succ_of_le hch.size⟩
  · refine Chg.setCell (hch.trans (Chg.of_grown (S := fun k => rowOf A = some k) hg1 fun k e => e) ?_) (fun _ => Or.inl rfl) _
    intro k hk e
    rcases hm with e1 | ⟨k', e1, e2⟩
    · exact .inr (e1.symm.trans e)
    · rw [e] at e1; injection e1 with e1; omega
/-- Between two rounds. -/
def UInv (T : TypeId) (w : World) (g : Nat) (A : Option Addr) (xs : List UInt8) (pre : List UInt8) (W : World) : Prop :=
  (WrTo T w g A (xs ++ pre) W ∧ Boxed W w.heap.size 93 (.pointer (some ⟨g, 0, none⟩)) ∧ ∃ v, Boxed W (w.heap.size + 1) 71 v)
theorem Moved.refl (w : World) (A : Option Addr) : Moved w A A := .inl rfl
theorem WrTo.refl {T : TypeId} {w : World} {g c : Nat} {A : Option Addr} {xs : List UInt8} (h : IsWr T w g A c xs) : WrTo T w g A xs w := ⟨A, c, h, Moved.refl w A, Chg.refl _ w⟩
theorem WrTo.grown {T : TypeId} {w W W' : World} {g : Nat} {A : Option Addr} {ys : List UInt8} {row : Option Nat} (h : WrTo T w g A ys W) (hg : W.grownBy W' row) (hr : ∀ r, row = some r → w.heap.size ≤ r ∧ ∃ o : Obj, W.heap[r]? = some o ∧ o.isCells = false) : WrTo T w g A ys W' := by
  obtain ⟨A', c', h1, h2, h3⟩ := h
  exact ⟨A', c', h1.grown hg fun r e => (hr r e).2, h2, h3.trans (Chg.of_grown (S := fun k => row = some k) hg fun k e => e) fun k hk e => by have := (hr k e).1; omega⟩
theorem WrTo.setNew {T : TypeId} {w W : World} {g : Nat} {A : Option Addr} {ys : List UInt8} (h : WrTo T w g A ys W) {b : Nat} {cs : Array Value} {t : TypeId} (hb : W.heap[b]? = some (.cells cs t (0, 0))) (ht1 : t ≠ T) (ht2 : t ≠ 5) (hw : w.heap.size ≤ b) (i : Nat) (v : Value) : WrTo T w g A ys (W.setCell ⟨b, i, none⟩ v) := by
  obtain ⟨A', c', h1, h2, h3⟩ := h
  refine ⟨A', c', h1.keep (S := fun k => k = b) ((Chg.refl (fun k => k = b) W).setCell (p := ⟨b, i, none⟩) (fun _ => rfl) v) ?_ ?_, h2, h3.setCell (fun q => absurd q (by simp only; omega)) v⟩
  · rintro rfl
    rw [h1.blk] at hb
    injection hb with hb; injection hb with _ hb
    exact ht1 hb.symm
  · rintro k hk rfl
    rcases h1.own.2 with ⟨e, _⟩ | ⟨k', cp, cur, e, _, hh, _⟩
    · simp only [Value.slice.injEq] at e
      rw [e.1] at hk; cases hk
    · simp only [Value.slice.injEq] at e
      rw [e.1] at hk
      injection hk with hk
      have hk : k' = k := hk
      subst hk
      rw [hb] at hh
      injection hh with hh; injection hh with _ hh
      exact ht2 hh

end Go.Proofs.YtlinjanflenljaaGreatDoor
