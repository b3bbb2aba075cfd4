/- The function that makes the iterator, and the iterator as a sequence. -/
import Derived.Test.YthmkfbabacehnaaDoorWhole
namespace Go.Proofs.YthmkfbabacehnaaDoor
open Go.RowKit Go.Shelf
set_option linter.unusedSimpArgs false
set_option linter.unusedVariables false
set_option linter.unusedSectionVars false
set_option maxRecDepth 10000
attribute [local go_sem] Oper.semAt_some
set_option maxHeartbeats 1000000 in
theorem wholeF_in (n : Nat) (s k : Int) (w : World) :
    CallsIn Fence.wide n Tryd.prog 23 #[.int .i64 s, .int .i64 k] w fun e w' => e = .returned (.func (.func 39) #[] #[.pointer (some ⟨w.heap.size + 1, 0, none⟩), .pointer (some ⟨w.heap.size, 0, none⟩)]) ∧ w' = (w.alloc (.cells #[.int .i64 s] 3)).alloc (.cells #[.int .i64 k] 3) := by
  refine callsIn_of_wp Tryd.func23 rfl trivial ?_ rfl
  simp only [Tryd.ntmps23, List.size_toArray, List.length_cons, List.length_nil, Nat.reduceAdd, Nat.reduceSub, Array.replicate_succ, Array.replicate_zero, List.push_toArray, List.append_toArray, List.nil_append, List.cons_append]
  gi_wp2
  go_ret
  exact ⟨rfl, rfl⟩
def KB (bn bs : Nat) (A B : World) : Prop := B.heap[bn]? = A.heap[bn]? ∧ B.heap[bs]? = A.heap[bs]?
theorem whole_seq (n bn bs : Nat) (s : Int) (k : Nat) (hk : k ≤ 8) (hn : 1 ≤ n) (w : World) (hB : Boxed w bn 3 (.int .i64 k)) (hS : Boxed w bs 3 (.int .i64 s)) :
    SeqMem Fence.wide n Tryd.prog 39 #[.pointer (some ⟨bn, 0, none⟩), .pointer (some ⟨bs, 0, none⟩)] RS (KB bn bs) (seqs s k) w := fun l J Jx W hW hY h0 =>
  whole1_in n l bn bs s k hk hn J Jx hY W (hW.1.trans hB) (hW.2.trans hS) h0
end Go.Proofs.YthmkfbabacehnaaDoor
