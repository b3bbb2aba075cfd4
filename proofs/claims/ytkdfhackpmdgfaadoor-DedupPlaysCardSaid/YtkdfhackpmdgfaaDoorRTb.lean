/- Two tables, the program's and the document's, that remember the same. -/
import Derived.Test.YtkdfhackpmdgfaaDoorRTake
import Derived.Test.YtkdfhackpmdgfaaDoorRCopy
import Derived.Test.YtkdfhackpmdgfaaDoorTbM
import Derived.Test.YtkdfhackpmdgfaaDoorWorks
namespace Go.Proofs.YtkdfhackpmdgfaaDoor
open Go.RowKit Go.Shelf
set_option linter.unusedSimpArgs false
set_option linter.unusedVariables false
set_option linter.unusedSectionVars false
set_option maxRecDepth 10000
/-- The document's table behind what was done. -/
structure TbR (base : Nat) (w0 : World) (D : Nat) (size : Int) (R : List En) (w : World) : Prop where
  tab : ∃ A c, TabR base D size A c R w
  bel : Below base w0 w
  le : base ≤ w.heap.size
section
variable {base D E : Nat} {size : Int} {P R : List En} {w0 w w' : World}
theorem TbR.below (h : TbR base w0 D size R w) (hb : Below w.heap.size w w') : TbR base w0 D size R w' := by
  obtain ⟨A, c, ht⟩ := h.tab
  exact ⟨⟨A, c, ht.below hb⟩, h.bel.trans (hb.mono h.le), Nat.le_trans h.le hb.size⟩
/-- The blocks of a table of the program; of the document. -/
theorem TabP.rowTy {A : Option Addr} {c : Nat} (h : TabP base D size A c P w) : ∀ g, rowOf A = some g → ∃ cs, w.heap[g]? = some (.cells cs 89 (0, 0)) := by
  intro g hg
  rcases h.own.2 with ⟨e, _⟩ | ⟨g', cap, cur, e, _, hh, _⟩
  · injection e with e; rw [e] at hg; cases hg
  · injection e with e
    rw [e] at hg
    injection hg with hg
    exact ⟨cur, by rw [← hg]; exact hh⟩
theorem TabR.rowTy {A : Option Addr} {c : Nat} (h : TabR base D size A c P w) : ∀ g, rowOf A = some g → ∃ cs, w.heap[g]? = some (.cells cs 94 (0, 0)) := by
  intro g hg
  rcases h.own.2 with ⟨e, _⟩ | ⟨g', cap, cur, e, _, hh, _⟩
  · injection e with e; rw [e] at hg; cases hg
  · injection e with e
    rw [e] at hg
    injection hg with hg
    exact ⟨cur, by rw [← hg]; exact hh⟩
/-- What a table of the document's may have turned. -/
def Kr (D : Nat) (w w' : World) : Prop := ∀ (k : Nat) (cs : Array Value) (T : TypeId) (f : Nat × Nat), w.heap[k]? = some (.cells cs T f) → k ≠ D → T ≠ 94 → w'.heap[k]? = some (.cells cs T f)
theorem TbR.kr {A : Option Addr} {c : Nat} (ht : TabR base D size A c R w) (hc : Chg (fun k => k = D ∨ rowOf A = some k) w w') : Kr D w w' := fun k cs T f hk hD hT => (hc.block k (blkX hk) fun q => by
  rcases q with q | q
  · exact hD q
  · exact ht.rowNe hk hT q).trans hk
theorem TbR.moved {A A' : Option Addr} {c c' : Nat} {R' : List En} (h : TbR base w0 D size R w) (ht : TabR base D size A c R w) (ht' : TabR base D size A' c' R' w') (hc : Chg (fun k => k = D ∨ rowOf A = some k) w w') : TbR base w0 D size R' w' :=
  ⟨⟨A', c', ht'⟩, Chg.belowAfter h.bel hc h.le (fun k hk q => by
    rcases q with q | q
    · have := ht.ge; omega
    · have := (ht.rowLt k q).1; omega), Nat.le_trans h.le hc.size⟩
/-- The program's table stays while the document's turns, and the other way. -/
theorem Tb.kr (h : Tb base w0 E size P w) (hk : Kr D w w') (hb : Below base w0 w') (hs : w.heap.size ≤ w'.heap.size) (hD : ∀ cs, w.heap[D]? = some (.cells cs 85 (0, 0)) → True) (hDt : ∃ cs, w.heap[D]? = some (.cells cs 85 (0, 0))) : Tb base w0 E size P w' := by
  obtain ⟨A, c, ht⟩ := h.tab
  obtain ⟨csD, hcD⟩ := hDt
  have ne : ∀ g cs T, w.heap[g]? = some (.cells cs T (0, 0)) → T ≠ 85 → g ≠ D := by
    rintro g cs T hg hT rfl
    rw [hcD] at hg
    injection hg with hg
    injection hg with _ hg
    exact hT hg.symm
  refine ⟨⟨A, c, ht.keep hs fun k hk' q => ?_⟩, hb, Nat.le_trans h.le hs, h.ord, h.ok⟩
  rcases q with rfl | q
  · exact (hk _ _ _ _ ht.blk (ne _ _ _ ht.blk (by decide)) (by decide)).trans ht.blk.symm
  · obtain ⟨cs, hh⟩ := ht.rowTy k q
    exact (hk _ _ _ _ hh (ne _ _ _ hh (by decide)) (by decide)).trans hh.symm
theorem TbR.kp (h : TbR base w0 E size R w) (hk : Kp D w w') (hb : Below base w0 w') (hs : w.heap.size ≤ w'.heap.size) (hDt : ∃ cs, w.heap[D]? = some (.cells cs 52 (0, 0))) : TbR base w0 E size R w' := by
  obtain ⟨A, c, ht⟩ := h.tab
  obtain ⟨csD, hcD⟩ := hDt
  have ne : ∀ g cs T, w.heap[g]? = some (.cells cs T (0, 0)) → T ≠ 52 → g ≠ D := by
    rintro g cs T hg hT rfl
    rw [hcD] at hg
    injection hg with hg
    injection hg with _ hg
    exact hT hg.symm
  refine ⟨⟨A, c, ht.keep hs fun k hk' q => ?_⟩, hb, Nat.le_trans h.le hs⟩
  rcases q with rfl | q
  · exact (hk _ _ _ _ ht.blk (ne _ _ _ ht.blk (by decide)) (by decide)).trans ht.blk.symm
  · obtain ⟨cs, hh⟩ := ht.rowTy k q
    exact (hk _ _ _ _ hh (ne _ _ _ hh (by decide)) (by decide)).trans hh.symm
end
end Go.Proofs.YtkdfhackpmdgfaaDoor
