/- Writers: what a call may have turned; a writer's block and its row of bytes. -/
import Derived.Test.YtlinjanflenljaaGreatDoorKit
import Derived.Test.YtlinjanflenljaaGreatDoorWPl
import Derived.Maps.AppendAt
import Derived.Deep.AppendLies
import Derived.Deep.Draws
namespace Go.Proofs.YtlinjanflenljaaGreatDoor
set_option linter.unusedVariables false
open Go.RowKit

def bv (c : UInt8) : Value := .int .u8 (c.toNat : Int)
def bvs (l : List UInt8) : List Value := l.map bv
theorem bvs_length (l : List UInt8) : (bvs l).length = l.length := by simp [bvs]
theorem bvs_append (l m : List UInt8) : bvs (l ++ m) = bvs l ++ bvs m := by simp [bvs]
theorem bvs_one (l : List UInt8) : ∀ u ∈ bvs l, u.oneCell' = true := by
  intro u hu
  obtain ⟨c, _, rfl⟩ := List.mem_map.1 hu
  rfl

/-- What a call may have turned: the blocks of S, and new ones. -/
structure Chg (S : Nat → Prop) (w w' : World) : Prop where
  os : w'.os = w.os
  tape : w'.tape = w.tape
  output : w'.output = w.output
  size : w.heap.size ≤ w'.heap.size
  block : ∀ k, k < w.heap.size → ¬ S k → w'.heap[k]? = w.heap[k]?
section
variable {S S' : Nat → Prop} {a w w' w'' : World}
theorem Chg.refl (S : Nat → Prop) (w : World) : Chg S w w := ⟨rfl, rfl, rfl, Nat.le_refl _, fun _ _ _ => rfl⟩
theorem Chg.more (h : Chg S w w') (hS : ∀ k, S k → S' k) : Chg S' w w' := ⟨h.os, h.tape, h.output, h.size, fun k hk hn => h.block k hk fun q => hn (hS k q)⟩
/-- Two steps: what the second one turned and was there before the first one, may be turned. -/
theorem Chg.trans (h : Chg S w w') (h' : Chg S' w' w'') (hS : ∀ k, k < w.heap.size → S' k → S k) : Chg S w w'' :=
  ⟨h'.os.trans h.os, h'.tape.trans h.tape, h'.output.trans h.output, Nat.le_trans h.size h'.size,
    fun k hk hn => (h'.block k (Nat.lt_of_lt_of_le hk h.size) fun q => hn (hS k hk q)).trans (h.block k hk hn)⟩
theorem Chg.of_below (h : Below w.heap.size w w') (S : Nat → Prop) : Chg S w w' := ⟨h.os, h.tape, h.output, h.size, fun k hk _ => h.block k hk⟩
theorem Chg.of_grown {row : Option Nat} (h : w.grownBy w' row) (hS : ∀ k, row = some k → S k) : Chg S w w' :=
  ⟨h.os, h.tape, h.output, h.size, fun k hk hn => h.block k hk fun e => hn (hS k e.symm)⟩
theorem Chg.below {B : Nat} (h : Chg S w w') (hB : B ≤ w.heap.size) (hS : ∀ k, k < B → ¬ S k) : Below B w w' :=
  ⟨h.os, h.tape, h.output, h.size, fun k hk => h.block k (Nat.lt_of_lt_of_le hk hB) (hS k hk)⟩
theorem Chg.belowAfter {B : Nat} (h0 : Below B a w) (h : Chg S w w') (hB : B ≤ w.heap.size) (hS : ∀ k, k < B → ¬ S k) : Below B a w' := h0.trans (h.below hB hS)
theorem Chg.drew (h : Chg S a w) : Chg S a w.drew := ⟨h.os, h.tape, h.output, h.size, h.block⟩
theorem Chg.drewN (h : Chg S a w) (n : Nat) : Chg S a (w.drewN n) := ⟨h.os, h.tape, h.output, h.size, h.block⟩
theorem Chg.alloc (h : Chg S a w) (o : Obj) : Chg S a (w.alloc o) :=
  ⟨h.os, h.tape, h.output, Nat.le_trans h.size (by simp), fun k hk hn => (Below.heap_alloc w o k (Nat.lt_of_lt_of_le hk h.size)).trans (h.block k hk hn)⟩
theorem Chg.setCell (h : Chg S a w) {p : Addr} (hp : p.block < a.heap.size → S p.block) (u : Value) : Chg S a (w.setCell p u) :=
  ⟨h.os, h.tape, h.output, by simpa [World.setCell] using h.size, fun k hk hn => (Below.heap_setCell w p u k (by rintro rfl; exact hn (hp hk))).trans (h.block k hk hn)⟩
theorem Chg.thenC (h : Chg S a w) (h' : Chg S' w w') (hS : ∀ k, k < a.heap.size → S' k → S k) : Chg S a w' := h.trans h' hS
theorem Chg.thenB (h : Chg S a w) (h' : Below w.heap.size w w') : Chg S a w' := h.trans (Chg.of_below h' S) fun _ _ q => q
end

def rowOf : Option Addr → Option Nat
  | some a => some a.block
  | none => none
theorem own_rowOf (A : Option Addr) (n c : Nat) : (Value.slice A n c).ownBlock = rowOf A := by cases A <;> rfl

/-- Block g is a writer (a struct of type T) that holds the bytes xs: the slice at A, of capacity c. -/
structure IsWr (T : TypeId) (w : World) (g : Nat) (A : Option Addr) (c : Nat) (xs : List UInt8) : Prop where
  blk : w.heap[g]? = some (.cells #[.bool true, .slice A xs.length c] T (0, 0))
  own : w.ownsRow 0 5 1 (.slice A xs.length c) xs.length (bvs xs)
section
variable {T : TypeId} {w w' : World} {g c : Nat} {A : Option Addr} {xs : List UInt8} {S : Nat → Prop}
theorem IsWr.lt (h : IsWr T w g A c xs) : g < w.heap.size := blkX h.blk
theorem IsWr.rowLt (h : IsWr T w g A c xs) {k : Nat} (hk : rowOf A = some k) : k < w.heap.size := (h.own.lt k (by rw [own_rowOf]; exact hk)).2
theorem IsWr.rowNe (h : IsWr T w g A c xs) (hT : T ≠ 5) {g' : Nat} {T' : TypeId} {cs : Array Value} (hg : w.heap[g']? = some (.cells cs T' (0, 0))) (hT' : T' ≠ 5) : rowOf A ≠ some g' := by
  intro he
  rcases h.own.2 with ⟨hv, _⟩ | ⟨k, cap, cur, hv, _, hh, _⟩
  · injection hv with hA; subst hA; cases he
  · injection hv with hA
    subst hA
    injection he with he
    have he : k = g' := he
    subst he
    rw [hg] at hh
    injection hh with hh
    injection hh with _ ht
    exact hT' ht
/-- What turns neither the block nor the row leaves the writer. -/
theorem IsWr.keep (h : IsWr T w g A c xs) (hc : Chg S w w') (hg : ¬ S g) (hr : ∀ k, rowOf A = some k → ¬ S k) : IsWr T w' g A c xs := by
  refine ⟨(hc.block g h.lt hg).trans h.blk, h.own.1, ?_⟩
  rcases h.own.2 with hn | ⟨k, cap, cur, hv, hb, hh, rest⟩
  · exact .inl hn
  · refine .inr ⟨k, cap, cur, hv, hb, ?_, rest⟩
    injection hv with hA
    subst hA
    exact (hc.block k (blkX hh) (hr k rfl)).trans hh
theorem IsWr.below (h : IsWr T w g A c xs) (hb : Below w.heap.size w w') : IsWr T w' g A c xs := h.keep (Chg.of_below hb fun _ => False) (fun q => q) (fun _ _ q => q)
end
/-- What a writer's own call may turn. -/
def wrS (g : Nat) (A : Option Addr) (k : Nat) : Prop := k = g ∨ rowOf A = some k
/-- A row stays where it was, or is new. -/
def Moved (w : World) (A A' : Option Addr) : Prop := rowOf A' = rowOf A ∨ ∃ k, rowOf A' = some k ∧ w.heap.size ≤ k
end Go.Proofs.YtlinjanflenljaaGreatDoor
