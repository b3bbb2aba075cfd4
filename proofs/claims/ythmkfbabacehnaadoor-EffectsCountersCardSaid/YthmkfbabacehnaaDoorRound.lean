/- A drawn region in a round of a range over a function: its orders may be walked as if outside of the round. No program in sight. -/
import Derived.Test.YthmkfbabacehnaaDoorKit
import Derived.OrdersIn
import Derived.RangeFuncCalls
namespace Go.Proofs.YthmkfbabacehnaaDoor
variable {F : Fence} {n : Nat} {P : Program} {md : Region.Mode} {ops : Array Oper} {Q : Exit → Act → World → Prop}
def noDefer (ops : Array Oper) : Bool := ops.all fun o => match o.op with | .defer _ => false | _ => true
theorem noDefer_spec (h : noDefer ops = true) (i : Nat) (o : Oper) (c : Call) (hi : ops[i]? = some o) : o.op ≠ .defer c := by
  intro e
  have hm : o ∈ ops := Array.mem_of_getElem? hi
  have := (Array.all_eq_true'.1 h) o hm
  rw [e] at this
  cases this
theorem wpIn_op_round {l : Nat} {o : Oper} {a : Act} {w : World} {K : Act → World → Prop} (hd : ∀ c, o.op ≠ .defer c) (h : o.wpIn F n P a w K Q) : o.wpIn (F.inRound l) n P a w K Q := by
  unfold Oper.wpIn at *
  refine ⟨h.1, ?_⟩
  have h2 := h.2
  rw [Oper.semAt_eq _ _ _ hd] at h2 ⊢
  generalize (execOp a.eval o).run P w = r at *
  cases r with
  | ok x w' => cases x <;> exact h2
  | halt x w' => cases x <;> exact h2
theorem wpAnyIn_round {l : Nat} (_ : F.round = none) (hd : ∀ (i : Nat) (o : Oper), ops[i]? = some o → ∀ c, o.op ≠ .defer c) : ∀ (fuel : Nat) (listed : Array Bool) (a : Act) (w : World),
    wpAnyIn F n P md ops Q fuel listed a w → wpAnyIn (F.inRound l) n P md ops Q fuel listed a w
  | 0, _, _, _, h => h
  | fuel + 1, listed, a, w, h => ⟨h.1, fun i hi => by
      have h1 := wpOpIn_mono (fun a w => wpAnyIn_round (l := l) ‹_› hd fuel _ a w) (h.2 i hi)
      unfold wpOpIn at h1 ⊢
      cases ho : ops[i]? with
      | none => rw [ho] at h1; exact h1
      | some o =>
        rw [ho] at h1
        simp only at h1 ⊢
        split
        · rename_i hw
          rw [if_pos hw] at h1
          exact wpIn_op_round (hd i o ho) h1
        · rename_i hw
          rw [if_neg hw] at h1
          exact h1⟩
end Go.Proofs.YthmkfbabacehnaaDoor
