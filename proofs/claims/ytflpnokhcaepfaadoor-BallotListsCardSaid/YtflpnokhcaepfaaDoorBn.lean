/- The blocks that live in a walk. -/
import Derived.Test.YtflpnokhcaepfaaDoorLib
namespace Go.Proofs.YtflpnokhcaepfaaDoor
open Go.RowKit
set_option linter.unusedSimpArgs false
set_option linter.unusedVariables false
set_option linter.unusedSectionVars false
set_option maxRecDepth 10000
/-- What lives at a place of a walk: what was there stands, the library's variables, and the blocks of a list. -/
structure Bn (w : World) (L : List (Nat × Array Value × TypeId)) (W : World) : Prop where
  bel : Below w.heap.size w W
  ldr : Ldr W
  blk : ∀ x ∈ L, W.heap[x.1]? = some (.cells x.2.1 x.2.2 (0, 0))
section
variable {w W W' : World} {L : List (Nat × Array Value × TypeId)}
theorem Bn.new (hL : Ldr w) : Bn w [] w := ⟨Below.refl _ _, hL, fun x hx => by cases hx⟩
theorem Bn.keep (h : Bn w L W) (hb : Below W.heap.size W W') : Bn w L W' :=
  ⟨h.bel.trans (hb.mono h.bel.size), h.ldr.keep hb, fun x hx => (hb.block _ (blkX (h.blk x hx))).trans (h.blk x hx)⟩
theorem Bn.drew (h : Bn w L W) : Bn w L W.drew := h.keep (Below.refl _ W).drew
theorem Bn.push (h : Bn w L W) (g : Nat) (cs : Array Value) (t : TypeId) (hg : g = W.heap.size) : Bn w (L ++ [(g, cs, t)]) (W.alloc (.cells cs t)) := by
  subst hg
  have hb := (Below.refl _ W).alloc (Nat.le_refl _) (.cells cs t)
  refine ⟨h.bel.trans (hb.mono h.bel.size), h.ldr.keep hb, fun x hx => ?_⟩
  rcases List.mem_append.1 hx with hx | hx
  · exact (h.keep hb).blk x hx
  · rw [List.mem_singleton] at hx
    subst hx
    exact hpNew W _
theorem Bn.get (h : Bn w L W) (i : Nat) {x : Nat × Array Value × TypeId} (hx : L[i]? = some x) : W.heap[x.1]? = some (.cells x.2.1 x.2.2 (0, 0)) := h.blk x (List.mem_of_getElem? hx)
/-- A call that keeps what was there, in a walk. -/
theorem Bn.call {P : Program} {f : FuncId} {args : Array Value} {v : Value} (h : Bn w L W) (c : ∀ W : World, Ldr W → Calls P f args W fun e w' => e = .returned v ∧ Below W.heap.size W w') : Calls P f args W fun e w' => e = .returned v ∧ Bn w L w' :=
  (c W h.ldr).mono fun _ _ ⟨he, hb⟩ => ⟨he, h.keep hb⟩
end
end Go.Proofs.YtflpnokhcaepfaaDoor
