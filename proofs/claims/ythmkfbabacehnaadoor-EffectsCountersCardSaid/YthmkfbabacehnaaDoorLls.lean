/- Lists of lists of effects: a row of slices of the call's own, each of a row of its own. -/
import Derived.Test.YthmkfbabacehnaaDoorWhl
import Derived.Test.YthmkfbabacehnaaDoorOrdE
import Derived.Test.YthmkfbabacehnaaDoorRound
namespace Go.Proofs.YthmkfbabacehnaaDoor
open Go.RowKit Go.Shelf
set_option linter.unusedSimpArgs false
set_option linter.unusedVariables false
set_option linter.unusedSectionVars false
set_option maxRecDepth 10000
def encS (x : Option Addr × Nat × Nat) : List Value := [.slice x.1 x.2.1 x.2.2]
theorem encS_len (x : Option Addr × Nat × Nat) : (encS x).length = 1 := rfl
theorem encS_one (x : Option Addr × Nat × Nat) : ∀ u ∈ encS x, u.oneCell' = true := by intro u hu; simp [encS] at hu; subst hu; rfl
theorem elemS : Elem Tryd.prog 35 25 1 24 := elem_of (z := .slice none 0 0) Tryd.underlying35 (by kernel_rfl) rfl (by omega)
theorem own_rowNe {W : World} {base size n c : Nat} {e : TypeId} {A : Option Addr} {xs : List Value} (h : W.ownsRow base e size (.slice A n c) n xs) {b : Nat} {cs : Array Value} {t : TypeId} {fz : Nat × Nat} (hb : W.heap[b]? = some (.cells cs t fz)) (ht : t ≠ e) : rowOf A ≠ some b := by
  intro q
  rcases h.2 with ⟨e1, _⟩ | ⟨g, cp, cur, e1, _, hh, _⟩
  · simp only [Value.slice.injEq] at e1
    rw [e1.1] at q; cases q
  · simp only [Value.slice.injEq] at e1
    rw [e1.1] at q
    injection q with q
    have q : g = b := q
    subst q
    rw [hh] at hb
    injection hb with hb
    injection hb with _ h2 _
    exact ht h2.symm
theorem own_other {W W' : World} {base size n c : Nat} {e : TypeId} {A : Option Addr} {xs : List Value} (h : W.ownsRow base e size (.slice A n c) n xs) {row : Option Nat} (hg : W.grownBy W' row) (hne : ∀ g cur, W.heap[g]? = some (.cells cur e (0, 0)) → row ≠ some g) : W'.ownsRow base e size (.slice A n c) n xs := by
  rcases h.2 with ⟨e1, e2⟩ | ⟨g, cp, cur, e1, e2, hh, r⟩
  · exact ⟨h.1, .inl ⟨e1, e2⟩⟩
  · exact ⟨h.1, .inr ⟨g, cp, cur, e1, e2, (hg.block g (Array.getElem?_eq_some_iff.1 hh).1 (fun q => hne g cur hh q.symm)).trans hh, r⟩⟩
theorem own_cells {W : World} {base size n c : Nat} {e : TypeId} {A : Option Addr} {xs : List Value} (h : W.ownsRow base e size (.slice A n c) n xs) (j : Nat) (o : Obj) (hj : rowOf A = some j) (ho : W.heap[j]? = some o) : o.isCells = true := by
  rcases h.2 with ⟨e1, _⟩ | ⟨g, cp, cur, e1, _, hh, _⟩
  · simp only [Value.slice.injEq] at e1
    rw [e1.1] at hj; cases hj
  · simp only [Value.slice.injEq] at e1
    rw [e1.1] at hj
    injection hj with hj
    have hj : g = j := hj
    subst hj
    rw [hh] at ho
    injection ho with ho
    subst ho
    rfl
structure LLS (w : World) (A : Option Addr) (n c : Nat) (xs : List (Option Addr × Nat × Nat)) (ls : List (List Ef)) (W : World) : Prop where
  bel : Below w.heap.size w W
  own : W.ownsRow w.heap.size 25 1 (.slice A n c) n (flat encS xs)
  len : xs.length = n
  cap : n ≤ c
  two : ls.length = n
  el : ∀ (i : Nat) (x : Option Addr × Nat × Nat) (l : List Ef), xs[i]? = some x → ls[i]? = some l → OwnE w x.1 x.2.1 x.2.2 l W
theorem LLS.nil {w W : World} (h : Below w.heap.size w W) : LLS w none 0 0 [] [] W := ⟨h, ⟨rfl, .inl ⟨rfl, rfl⟩⟩, rfl, Nat.le_refl _, rfl, fun i x l hx _ => by simp at hx⟩
theorem LLS.keep {w W W' : World} {A : Option Addr} {n c : Nat} {xs : List (Option Addr × Nat × Nat)} {ls : List (List Ef)} (h : LLS w A n c xs ls W) (hb : Below W.heap.size W W') : LLS w A n c xs ls W' :=
  ⟨h.bel.trans (hb.mono h.bel.size), ownKeep h.own hb, h.len, h.cap, h.two, fun i x l hx hl => (h.el i x l hx hl).keep hb⟩
theorem OwnE.other {w W W' : World} {A : Option Addr} {n c : Nat} {l : List Ef} (h : OwnE w A n c l W) {row : Option Nat} (hg : W.grownBy W' row) (hb : ∀ g, row = some g → w.heap.size ≤ g) (hne : ∀ g cur, W.heap[g]? = some (.cells cur 56 (0, 0)) → row ≠ some g) : OwnE w A n c l W' :=
  ⟨h.bel.trans (below_of_grown hg h.bel.size hb), own_other h.own hg hne, h.len, h.cap⟩
/-- Where a block turned that is neither a row of effects nor a row of slices. -/
theorem LLS.other {w W W' : World} {A : Option Addr} {n c : Nat} {xs : List (Option Addr × Nat × Nat)} {ls : List (List Ef)} (h : LLS w A n c xs ls W) {row : Option Nat} (hg : W.grownBy W' row) (hb : ∀ g, row = some g → w.heap.size ≤ g)
    (h1 : ∀ g cur, W.heap[g]? = some (.cells cur 56 (0, 0)) → row ≠ some g) (h2 : ∀ g cur, W.heap[g]? = some (.cells cur 25 (0, 0)) → row ≠ some g) : LLS w A n c xs ls W' :=
  ⟨h.bel.trans (below_of_grown hg h.bel.size hb), own_other h.own hg h2, h.len, h.cap, h.two, fun i x l hx hl => (h.el i x l hx hl).other hg hb h1⟩
theorem LLS.setBox {w W : World} {A : Option Addr} {n c : Nat} {xs : List (Option Addr × Nat × Nat)} {ls : List (List Ef)} (h : LLS w A n c xs ls W) {b : Nat} {t : TypeId} {v : Value} (hb : Boxed W b t v) (hw : w.heap.size ≤ b) (h1 : t ≠ 56) (h2 : t ≠ 25) (y : Value) : LLS w A n c xs ls (W.setCell ⟨b, 0, none⟩ y) := by
  refine h.other (grownBy_setCell' W b y) (fun g e => by cases e; exact hw) ?_ ?_
  · intro g cur hg e
    cases e
    have hb' : W.heap[b]? = some (.cells #[v] t (0, 0)) := hb
    rw [hg] at hb'
    injection hb' with hb'
    injection hb' with _ q _
    exact h1 q.symm
  · intro g cur hg e
    cases e
    have hb' : W.heap[b]? = some (.cells #[v] t (0, 0)) := hb
    rw [hg] at hb'
    injection hb' with hb'
    injection hb' with _ q _
    exact h2 q.symm
theorem LLS.frozen {w W W' : World} {A : Option Addr} {n c B : Nat} {xs : List (Option Addr × Nat × Nat)} {ls : List (List Ef)} (h : LLS w A n c xs ls W) {row : Option Nat} (hg : W.grownBy W' row) (hr : ∀ r, row = some r → B ≤ r ∧ ∃ o : Obj, W.heap[r]? = some o ∧ o.isCells = false) (hB : w.heap.size ≤ B) : LLS w A n c xs ls W' := by
  refine h.other hg (fun g e => by have := (hr g e).1; omega) ?_ ?_
  all_goals
    intro g cur hh e
    obtain ⟨o, h1, h2⟩ := (hr g e).2
    rw [hh] at h1
    injection h1 with h1
    subst h1
    cases h2
theorem sl_oneS (W : World) (x : Option Addr × Nat × Nat) : SL encS 1 (W.alloc (.cells #[.slice x.1 x.2.1 x.2.2] 25)) (some ⟨W.heap.size, 0, none⟩) 1 [x] := by
  refine ⟨rfl, fun _ => ⟨_, _, rfl, by simp, fun i y hy j u hu => ?_⟩⟩
  have hi : i = 0 := by have := (List.getElem?_eq_some_iff.1 hy).1; simp at this; exact this
  subst hi
  simp only [List.getElem?_cons_zero, Option.some.injEq] at hy
  subst hy
  have := blkC (hpNew W (.cells #[.slice x.1 x.2.1 x.2.2] 25)) (0 + 0 * 1 + j)
  rw [this]
  simpa [encS] using hu
/-- append of one list. -/
theorem LLS.push {w W : World} {A : Option Addr} {n c : Nat} {xs : List (Option Addr × Nat × Nat)} {ls : List (List Ef)} (h : LLS w A n c xs ls W) {A1 : Option Addr} {n1 c1 : Nat} {l : List Ef} (h1 : OwnE w A1 n1 c1 l W) (hn : n ≤ 1000000) (d : Nat) :
    ∃ A' c' W', (appSem #[35, 35] 35 #[.slice A n c, .slice (some ⟨W.heap.size, 0, none⟩) 1 d]).run Tryd.prog (W.alloc (.cells #[.slice A1 n1 c1] 25)) = .ok (.slice A' (n + 1) c') W' ∧ LLS w A' (n + 1) c' (xs ++ [(A1, n1, c1)]) (ls ++ [l]) W' ∧ W.grownBy W' (rowOf A) := by
  have hb0 := (Below.refl W.heap.size W).alloc (Nat.le_refl _) (.cells #[.slice A1 n1 c1] 25)
  have h' := h.keep hb0
  have h1' := h1.keep hb0
  obtain ⟨A', c', w1, hrun, hcap, hown, hgr, hat⟩ := append_sl elemS encS_len encS_one (ty := 35) (d := d) h'.own h'.bel.size (sl_oneS W (A1, n1, c1)) (by omega) (by omega)
  have hge : ∀ g, rowOf A = some g → w.heap.size ≤ g := fun g hg => (own_row h'.own g hg).1
  have hne : ∀ g cur, (W.alloc (.cells #[.slice A1 n1 c1] 25)).heap[g]? = some (.cells cur 56 (0, 0)) → rowOf A ≠ some g := fun g cur hh => own_rowNe h'.own hh (by decide)
  refine ⟨A', c', w1, hrun, ⟨h'.bel.trans (below_of_grown hgr h'.bel.size hge), hown, by simp [h.len], hcap, by simp [h.two], fun i x m hx hm => ?_⟩, (grown_any (grown_of hb0)).trans hgr⟩
  rcases Nat.lt_or_ge i n with hi | hi
  · rw [List.getElem?_append_left (by rw [h.len]; exact hi)] at hx
    rw [List.getElem?_append_left (by rw [h.two]; exact hi)] at hm
    exact (h'.el i x m hx hm).other hgr hge hne
  · have hi' : i = n := by
      have := (List.getElem?_eq_some_iff.1 hx).1
      simp [h.len] at this; omega
    subst hi'
    rw [List.getElem?_append_right (by rw [h.len]; omega), h.len] at hx
    rw [List.getElem?_append_right (by rw [h.two]; omega), h.two] at hm
    simp at hx hm
    subst hx hm
    exact h1'.other hgr hge hne
/-- What lies at one place of it. -/
theorem LLS.at_ {w W : World} {A : Option Addr} {n c : Nat} {xs : List (Option Addr × Nat × Nat)} {ls : List (List Ef)} (h : LLS w A n c xs ls W) {i : Nat} (hi : i < n) :
    ∃ b o A1 n1 c1 l, A = some ⟨b, o, none⟩ ∧ b < W.heap.size ∧ W.cell? ⟨b, o + i, none⟩ = some (.slice A1 n1 c1) ∧ ls[i]? = some l ∧ OwnE w A1 n1 c1 l W := by
  obtain ⟨b, o, x, e, hl, hx, hc⟩ := SL.at_ (SL.of_own encS_len h.own h.len) hi
  have hv : ls[i]? = some (ls[i]'(by have := h.two; omega)) := List.getElem?_eq_getElem _
  have h0 := hc 0 _ rfl
  rw [Nat.mul_one, Nat.add_zero] at h0
  exact ⟨b, o, x.1, x.2.1, x.2.2, _, e, hl, h0, hv, h.el i x _ hx hv⟩
end Go.Proofs.YthmkfbabacehnaaDoor
