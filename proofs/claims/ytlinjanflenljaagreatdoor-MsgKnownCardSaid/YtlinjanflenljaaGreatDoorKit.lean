/- Small facts on blocks that walks use: what a block holds behind a new block, a store, a draw, a call that keeps what was there. No program in sight. -/
import Derived.Test.YtlinjanflenljaaGreatDoorRows
import Derived.WalkKit
import Derived.ProofKit
import Derived.OpenShut
import Derived.LoopN
import Derived.WalkSpells
import Derived.WalkLawsBesides
import Derived.Lib.Hide
namespace Go.Proofs.YtlinjanflenljaaGreatDoor
open Go.RowKit

theorem below_drewN {B : Nat} {a w : World} (h : Below B a w) (n : Nat) : Below B a (w.drewN n) := ⟨h.os, h.tape, h.output, h.size, h.block⟩
theorem belowThen {w W w1 : World} (hb : Below W.heap.size W w1) (h : Below w.heap.size w W) : Below w.heap.size w w1 := h.trans (hb.mono h.size)

section
variable {w : World} {g : Nat} {cs : Array Value} {t : TypeId} {f : Nat × Nat}
theorem hpNew (w : World) (o : Obj) : (w.alloc o).heap[w.heap.size]? = some o := by
  show (w.heap.push o)[w.heap.size]? = some o
  simp
theorem hpOld (o : Obj) (h : g < w.heap.size) : (w.alloc o).heap[g]? = w.heap[g]? := Below.heap_alloc w o g h
theorem hpSet {i : Nat} {v : Value} (h : w.heap[g]? = some (.cells cs t f)) : (w.setCell ⟨g, i, none⟩ v).heap[g]? = some (.cells (cs.setIfInBounds i v) t f) := by
  simp [World.setCell, Array.getElem?_modify, h]
theorem hpFar {a : Addr} {v : Value} (h : g ≠ a.block) : (w.setCell a v).heap[g]? = w.heap[g]? := Below.heap_setCell w a v g h
theorem hpNewAt (o : Obj) (h : g = w.heap.size) : (w.alloc o).heap[g]? = some o := by rw [h]; exact hpNew w o
theorem hpDrewAt {x : Option Obj} (h : w.heap[g]? = x) : w.drew.heap[g]? = x := h
theorem hpDrewNAt {x : Option Obj} (n : Nat) (h : w.heap[g]? = x) : (w.drewN n).heap[g]? = x := h
theorem blkC (h : w.heap[g]? = some (.cells cs t f)) : ∀ o, w.cell? ⟨g, o, none⟩ = cs[o]? := fun o => by simp [World.cell?, h]
theorem blkF (h : w.heap[g]? = some (.cells cs t (0, 0))) : ∀ o, w.frozen? ⟨g, o, none⟩ = false := fun o => by simp [World.frozen?, h]
theorem blkX (h : w.heap[g]? = some (.cells cs t f)) : g < w.heap.size := by
  rcases Nat.lt_or_ge g w.heap.size with hlt | hge
  · exact hlt
  · rw [Array.getElem?_eq_none hge] at h; cases h
end
theorem withBlk {P : Prop} {w1 W : World} {g : Nat} {x : Option Obj} (hb : w1.heap[g]? = W.heap[g]?) (h : W.heap[g]? = x) (k : w1.heap[g]? = x → P) : P := k (hb.trans h)
theorem ret_int {k : IntKind} {a b : Int} (h : a = b) : Ending.returned (.int k a) = .returned (.int k b) := by rw [h]
theorem ret_bool {a b : Bool} (h : a = b) : Ending.returned (.bool a) = .returned (.bool b) := by rw [h]
end Go.Proofs.YtlinjanflenljaaGreatDoor
