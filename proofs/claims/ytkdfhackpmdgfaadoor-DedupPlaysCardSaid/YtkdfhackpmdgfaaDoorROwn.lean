/- Lists of effects that grow. -/
import Derived.Test.YtkdfhackpmdgfaaDoorRGet
import Derived.Test.YtkdfhackpmdgfaaDoorTake1
namespace Go.Proofs.YtkdfhackpmdgfaaDoor
open Go.RowKit Go.Shelf
set_option linter.unusedSimpArgs false
set_option linter.unusedVariables false
set_option linter.unusedSectionVars false
set_option maxRecDepth 10000
theorem ownE_row {w : World} {base n c : Nat} {A : Option Addr} {xs : List Value} (h : w.ownsRow base 23 3 (.slice A n c) n xs) : ∀ g, rowOf A = some g → base ≤ g ∧ g < w.heap.size := own_row h
/-- A list of effects of the call's own. -/
structure OwnE (w : World) (A : Option Addr) (n c : Nat) (l : List Ef) (W : World) : Prop where
  bel : Below w.heap.size w W
  own : W.ownsRow w.heap.size 23 3 (.slice A n c) n (flat encE l)
  len : l.length = n
  cap : n ≤ c
theorem OwnE.nil (w W : World) (hb : Below w.heap.size w W) : OwnE w none 0 0 [] W := ⟨hb, ⟨rfl, .inl ⟨rfl, rfl⟩⟩, rfl, Nat.le_refl _⟩
theorem OwnE.es {w W : World} {A : Option Addr} {n c : Nat} {l : List Ef} (h : OwnE w A n c l W) : ES W A n l := SL.of_own encE_len h.own h.len
theorem OwnE.rowLt {w W : World} {A : Option Addr} {n c : Nat} {l : List Ef} (h : OwnE w A n c l W) : ∀ g, rowOf A = some g → w.heap.size ≤ g ∧ g < W.heap.size := own_row h.own
theorem OwnE.below {w W W' : World} {A : Option Addr} {n c : Nat} {l : List Ef} (h : OwnE w A n c l W) (hb : Below W.heap.size W W') : OwnE w A n c l W' :=
  ⟨h.bel.trans (hb.mono h.bel.size), by
    rcases h.own.2 with e | ⟨g, cp, cur, e1, e2, hh, r⟩
    · exact ⟨h.own.1, .inl e⟩
    · exact ⟨h.own.1, .inr ⟨g, cp, cur, e1, e2, (hb.block g (blkX hh)).trans hh, r⟩⟩, h.len, h.cap⟩
theorem catE {w W : World} {A B : Option Addr} {n c m d : Nat} {l r : List Ef} (h : OwnE w A n c l W) (h2 : ES W B m r) (hn : n ≤ 100000) (hm : m ≤ 100000) :
    ∃ A' c' W', (appSem #[34, 34] 34 #[.slice A n c, .slice B m d]).run Tryd.prog W = .ok (.slice A' (n + m) c') W' ∧ OwnE w A' (n + m) c' (l ++ r) W' ∧ W.grownBy W' (rowOf A) ∧ (rowOf A' = rowOf A ∨ rowOf A' = some W.heap.size) := by
  obtain ⟨A', c', w1, hrun, hcap, hown, hgr, hat⟩ := append_sl elemE encE_len encE_one (ty := 34) (d := d) h.own h.bel.size h2 (by omega) (by omega)
  exact ⟨A', c', w1, hrun, ⟨h.bel.trans (below_of_grown hgr h.bel.size fun g hg => (own_row h.own g hg).1), hown, by simp [h.len, h2.1], hcap⟩, hgr, hat⟩
theorem sliced_row {A Y : Option Addr} {lo hi cp k m d : Nat} (h : sliced A lo hi cp k = .slice Y m d) : ∀ g, rowOf Y = some g → rowOf A = some g := by
  intro g hg
  unfold sliced at h
  injection h with h _ _
  rw [← h] at hg
  split at hg
  · exact hg
  · cases A with
    | none => cases hg
    | some a =>
      have : (a.add (lo * k)).block = a.block := by unfold Addr.add; split <;> rfl
      simp only [Option.map_some, rowOf] at hg ⊢
      rw [← this]; exact hg
/-- Putting at its place. -/
theorem insE_at {x : Ef} {l : List Ef} {j : Nat} (hj : j ≤ l.length) (h1 : ∀ z ∈ l.take j, efLt z x = true) (h2 : ∀ z, l[j]? = some z → efLt z x = false) : insE x l = l.take j ++ [x] ++ l.drop j := by
  have hw : l.takeWhile (fun y => efLt y x) = l.take j ∧ l.dropWhile (fun y => efLt y x) = l.drop j := by
    induction l generalizing j with
    | nil => simp
    | cons a l ih =>
      cases j with
      | zero =>
        have := h2 a rfl
        rw [List.takeWhile_cons_of_neg (p := fun y => efLt y x) (by rw [this]; decide), List.dropWhile_cons_of_neg (p := fun y => efLt y x) (by rw [this]; decide)]
        exact ⟨rfl, rfl⟩
      | succ j =>
        have ha := h1 a (by simp)
        rw [List.takeWhile_cons_of_pos (p := fun y => efLt y x) ha, List.dropWhile_cons_of_pos (p := fun y => efLt y x) ha]
        obtain ⟨i1, i2⟩ := ih (j := j) (by simpa using hj) (fun z hz => h1 z (by simp [hz])) (fun z hz => h2 z (by simpa using hz))
        rw [i1, i2]
        exact ⟨rfl, rfl⟩
  unfold insE
  rw [hw.1, hw.2]
  simp
theorem srtE_len (l : List Ef) : (srtE l).length = l.length := by
  unfold srtE
  have : ∀ (l o : List Ef), (l.foldl (fun P x => insE x P) o).length = o.length + l.length := by
    intro l
    induction l with
    | nil => intro o; rfl
    | cons a l ih => intro o; rw [List.foldl_cons, ih, insE_len, List.length_cons]; omega
  rw [this]; simp
theorem srtE_more {R : List En} {k : Nat} {x : En} (hx : R[k]? = some x) : srtE ((R.take (k + 1)).map En.e) = insE x.e (srtE ((R.take k).map En.e)) := by
  rw [List.take_add_one, hx]
  simp only [Option.toList, List.map_append, List.map_cons, List.map_nil]
  exact srtE_snoc _ _
theorem take_more' {l : List Ef} {k : Nat} {x z : Ef} (hx : l[k]? = some x) (hz : z ∈ l.take (k + 1)) : z ∈ l.take k ∨ z = x := by
  rw [List.take_add_one, hx] at hz
  simpa using hz
end Go.Proofs.YtkdfhackpmdgfaaDoor
