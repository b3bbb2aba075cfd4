/- Lists of entries that grow. -/
import Derived.Test.YtkdfhackpmdgfaaDoorRPut
namespace Go.Proofs.YtkdfhackpmdgfaaDoor
open Go.RowKit Go.Shelf
set_option linter.unusedSimpArgs false
set_option linter.unusedVariables false
set_option linter.unusedSectionVars false
set_option maxRecDepth 10000
attribute [local go_sem ↓] hideAppend
theorem ownsRow_re {w : World} {base base' n c : Nat} {e : TypeId} {sz : Nat} {A : Option Addr} {xs : List Value} (h : w.ownsRow base e sz (.slice A n c) n xs) (hb : base' ≤ base) : w.ownsRow base' e sz (.slice A n c) n xs := by
  rcases h.2 with e | ⟨g, cp, cur, e1, e2, r⟩
  · exact ⟨h.1, .inl e⟩
  · exact ⟨h.1, .inr ⟨g, cp, cur, e1, Nat.le_trans hb e2, r⟩⟩
/-- A list of entries of the call's own. -/
structure OwnR (w : World) (A : Option Addr) (n c : Nat) (l : List En) (W : World) : Prop where
  bel : Below w.heap.size w W
  own : W.ownsRow w.heap.size 94 7 (.slice A n c) n (flat encR l)
  len : l.length = n
theorem OwnR.nil (w W : World) (hb : Below w.heap.size w W) : OwnR w none 0 0 [] W := ⟨hb, ⟨rfl, .inl ⟨rfl, rfl⟩⟩, rfl⟩
theorem OwnR.rs {w W : World} {A : Option Addr} {n c : Nat} {l : List En} (h : OwnR w A n c l W) : RS W A n l := SL.of_own encR_len h.own h.len
theorem OwnR.rowLt {w W : World} {A : Option Addr} {n c : Nat} {l : List En} (h : OwnR w A n c l W) : ∀ g, rowOf A = some g → w.heap.size ≤ g ∧ g < W.heap.size := own_row h.own
theorem OwnR.keep {w W W' : World} {A : Option Addr} {n c : Nat} {l : List En} (h : OwnR w A n c l W) (hb : Below w.heap.size w W') (hk : ∀ g, rowOf A = some g → W'.heap[g]? = W.heap[g]?) : OwnR w A n c l W' :=
  ⟨hb, by
    rcases h.own.2 with e | ⟨g, cp, cur, e1, e2, hh, r⟩
    · exact ⟨h.own.1, .inl e⟩
    · exact ⟨h.own.1, .inr ⟨g, cp, cur, e1, e2, (hk g (by injection e1 with e1; rw [e1]; rfl)).trans hh, r⟩⟩, h.len⟩
theorem OwnR.below {w W W' : World} {A : Option Addr} {n c : Nat} {l : List En} (h : OwnR w A n c l W) (hb : Below W.heap.size W W') : OwnR w A n c l W' :=
  h.keep (h.bel.trans (hb.mono h.bel.size)) fun g hg => hb.block g (h.rowLt g hg).2
theorem OwnR.grown {w W W' : World} {A : Option Addr} {n c : Nat} {l : List En} {r : Option Nat} (h : OwnR w A n c l W) (hg : W.grownBy W' r) (hr : ∀ g, r = some g → w.heap.size ≤ g) (hne : ∀ g, rowOf A = some g → r ≠ some g) : OwnR w A n c l W' :=
  h.keep (h.bel.trans (below_of_grown hg h.bel.size hr)) fun g h1 => hg.block g (h.rowLt g h1).2 fun e => hne g h1 e.symm
/-- One entry more. -/
theorem OwnR.push {w W : World} {A : Option Addr} {n c : Nat} {l : List En} (h : OwnR w A n c l W) (hn : n ≤ 100000) (x : En) :
    ∃ A' c' V, (appSem #[83, 83] 83 #[.slice A n c, .slice (some ⟨W.heap.size, 0, none⟩) 1 1]).run Tryd.prog (W.alloc (.cells #[.int .i64 x.e.1, .int .i64 x.e.2.1, .int .i64 x.e.2.2, .string x.k, .int .i64 x.r.1, .int .i64 x.r.2.1, .string x.r.2.2] 94)) = .ok (.slice A' (n + 1) c') V ∧ OwnR w A' (n + 1) c' (l ++ [x]) V ∧ (W.alloc (.cells #[.int .i64 x.e.1, .int .i64 x.e.2.1, .int .i64 x.e.2.2, .string x.k, .int .i64 x.r.1, .int .i64 x.r.2.1, .string x.r.2.2] 94)).grownBy V (rowOf A) ∧ (∀ g, rowOf A' = some g → rowOf A = some g ∨ W.heap.size < g) := by
  have hb := (Below.refl W.heap.size W).alloc (Nat.le_refl _) (.cells #[.int .i64 x.e.1, .int .i64 x.e.2.1, .int .i64 x.e.2.2, .string x.k, .int .i64 x.r.1, .int .i64 x.r.2.1, .string x.r.2.2] 94)
  have h' := h.below hb
  obtain ⟨A', c', V, hrun, hcap, hown, hgr, hat⟩ := append_sl elemR encR_len encR_one (ty := 83) (d := 1) h'.own h'.bel.size (enr_one W x) (by omega) (by omega)
  refine ⟨A', c', V, hrun, ⟨h'.bel.trans (below_of_grown hgr h'.bel.size fun g hg => (own_row h'.own g hg).1), hown, by simp [h.len]⟩, hgr, fun g hg => ?_⟩
  rcases hat with q | q
  · exact .inl (by rw [← q]; exact hg)
  · right
    rw [q] at hg
    injection hg with hg
    rw [← hg]; simp
theorem filter_more {P : List En} {f : En → Bool} {k : Nat} {x : En} (hx : P[k]? = some x) : (P.take (k + 1)).filter f = if f x then (P.take k).filter f ++ [x] else (P.take k).filter f := by
  rw [List.take_add_one, hx]
  simp only [Option.toList, List.filter_append, List.filter_cons, List.filter_nil]
  split <;> simp
end Go.Proofs.YtkdfhackpmdgfaaDoor
