/- CountBounds: what holds behind the store of a counter and the append of its delta. -/
import Derived.Test.YtmkggjhlacajaaaBndO
import Derived.Test.YtmkggjhlacajaaaKit2
namespace Go.Proofs.Ytmkggjhlacajaaa
open Go.RowKit
set_option linter.unusedSimpArgs false
set_option linter.unusedVariables false
theorem Opn.keep {B : Nat} {W W' : World} {A : Option Addr} {n c : Nat} {l : List Int} (h : Opn B W A n c l) (hb : ∀ (k : Nat) (cs : Array Value), W.heap[k]? = some (Obj.cells cs 2 (0, 0)) → W'.heap[k]? = W.heap[k]?) : Opn B W' A n c l := by
  refine ⟨h.1, ?_⟩
  rcases h.2 with e | ⟨k, cp, cur, e, h0, hh, rest⟩
  · exact .inl e
  · exact .inr ⟨k, cp, cur, e, h0, (hb k _ hh).trans hh, rest⟩
theorem Opn.rowNe {B : Nat} {W : World} {A : Option Addr} {n c : Nat} {l : List Int} (h : Opn B W A n c l) {g : Nat} {cs : Array Value} {t : TypeId} (hg : W.heap[g]? = some (.cells cs t (0, 0))) (ht : t ≠ 2 := by decide) : rowOf A ≠ some g := by
  rcases h.2 with ⟨e, _⟩ | ⟨k, cp, cur, e, h0, hh, rest⟩
  · injection e with e; subst e; intro q; cases q
  · injection e with e
    subst e
    intro q
    injection q with q
    simp only at q
    subst q
    rw [hg] at hh
    injection hh with hh
    injection hh with _ hh
    exact ht hh
/-- A counter stored into its block. -/
def stored (w : World) (g : Nat) (v up dn lo hi : Int) : World := ((((w.setCell ⟨g, 0, none⟩ (.int .i64 v)).setCell ⟨g, 1, none⟩ (.int .i64 up)).setCell ⟨g, 2, none⟩ (.int .i64 dn)).setCell ⟨g, 3, none⟩ (.int .i64 lo)).setCell ⟨g, 4, none⟩ (.int .i64 hi)
theorem stored_size (w : World) (g : Nat) (v up dn lo hi : Int) : (stored w g v up dn lo hi).heap.size = w.heap.size := by simp [stored]
theorem stored_far {w : World} {g k : Nat} (h : k ≠ g) (v up dn lo hi : Int) : (stored w g v up dn lo hi).heap[k]? = w.heap[k]? := by
  unfold stored
  exact (hpFar h).trans ((hpFar h).trans ((hpFar h).trans ((hpFar h).trans (hpFar h))))
theorem stored_at {w : World} {g : Nat} {a b c d e : Value} {t : TypeId} (h : w.heap[g]? = some (.cells #[a, b, c, d, e] t (0, 0))) (v up dn lo hi : Int) : (stored w g v up dn lo hi).heap[g]? = some (.cells #[.int .i64 v, .int .i64 up, .int .i64 dn, .int .i64 lo, .int .i64 hi] t (0, 0)) := by
  unfold stored
  exact hpTo (hpSet (hpSet (hpSet (hpSet (hpSet h))))) (by simp)
theorem stored_below {B : Nat} {w : World} {g : Nat} (h : B ≤ g) (v up dn lo hi : Int) : Below B w (stored w g v up dn lo hi) := by
  unfold stored
  exact Below.setCell (Below.setCell (Below.setCell (Below.setCell (Below.setCell (Below.refl _ _) h _) h _) h _) h _) h _
theorem push_behind {B : Nat} {w : World} {A : Option Addr} {n c : Nat} {l : List Int} {g : Nat} {a0 a1 a2 a3 a4 : Value} (h : Opn B w A n c l) (hg : w.heap[g]? = some (.cells #[a0, a1, a2, a3, a4] 23 (0, 0))) (hB : B ≤ g) (hn : n ≤ 1000) (v up dn lo hi d : Int) (x : Obj) :
    ∃ A' c' w', (appSem #[47, 47] 47 #[.slice A n c, .slice (some ⟨w.heap.size + 1, 0, none⟩) 1 1]).run Try.prog (((stored w g v up dn lo hi).alloc x).alloc (.cells #[.int .i64 d] 2)) = .ok (.slice A' (n + 1) c') w' ∧
      Opn B w' A' (n + 1) c' (l ++ [d]) ∧ w'.heap[g]? = some (.cells #[.int .i64 v, .int .i64 up, .int .i64 dn, .int .i64 lo, .int .i64 hi] 23 (0, 0)) ∧ Below B w w' := by
  have hgl := blkX hg
  have hsz : ((stored w g v up dn lo hi).alloc x).heap.size = w.heap.size + 1 := by rw [World.size_alloc, stored_size]
  have h5 := h.keep (W' := (stored w g v up dn lo hi).alloc x) fun k cs hk => by
    have hkg : k ≠ g := by
      rintro rfl
      rw [hg] at hk; injection hk with hk; injection hk with _ hk; exact absurd hk (by decide)
    exact (hpOld _ (by rw [stored_size]; exact blkX hk)).trans (stored_far hkg v up dn lo hi)
  have hg5 : ((stored w g v up dn lo hi).alloc x).heap[g]? = _ := (hpOld _ (by rw [stored_size]; exact hgl)).trans (stored_at hg v up dn lo hi)
  obtain ⟨A', c', w', hrun, hop, hgr⟩ := h5.push hn (by rw [hsz]; omega) d
  rw [hsz] at hrun
  have hne := h5.rowNe hg5
  refine ⟨A', c', w', hrun, hop, ?_, ?_⟩
  · exact (hgr.block _ (by rw [World.size_alloc, hsz]; omega) (fun e => hne e.symm)).trans ((hpOld _ (by rw [hsz]; omega)).trans hg5)
  · have hb : Below B w (((stored w g v up dn lo hi).alloc x).alloc (.cells #[.int .i64 d] 2)) := ((stored_below hB v up dn lo hi).alloc (by rw [stored_size]; omega) x).alloc (by rw [hsz]; omega) _
    refine hb.trans ⟨hgr.os, hgr.tape, hgr.output, hgr.size, fun k hk => hgr.block k (by rw [World.size_alloc, hsz]; omega) (fun e => ?_)⟩
    have := (h5.lt k (by rw [own_rowOf]; exact e.symm)).1
    omega
end Go.Proofs.Ytmkggjhlacajaaa
