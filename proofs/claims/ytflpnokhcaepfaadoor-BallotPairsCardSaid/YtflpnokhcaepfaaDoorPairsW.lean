/- BallotPairs' walk. -/
import Derived.Test.YtflpnokhcaepfaaDoorWorks
import Derived.Test.YtflpnokhcaepfaaDoorRefN
import Derived.Deep.RegionHeld3
namespace Go.Proofs.YtflpnokhcaepfaaDoor
open Go.RowKit
set_option linter.unusedSimpArgs false
set_option linter.unusedVariables false
set_option linter.unusedSectionVars false
set_option maxRecDepth 10000
set_option maxHeartbeats 8000000 in
theorem pairs_walk (r n : Int) (rl : -9223372036854775808 ≤ r ∧ r ≤ 9223372036854775807) (nl : -9223372036854775808 ≤ n ∧ n ≤ 9223372036854775807) (s m : Int) (sl : -9223372036854775808 ≤ s ∧ s ≤ 9223372036854775807) (ml : -9223372036854775808 ≤ m ∧ m ≤ 9223372036854775807) (k : Int) (kl : -9223372036854775808 ≤ k ∧ k ≤ 9223372036854775807) (w : World) (hL : Ldr w) : Calls Tryd.prog 3 #[.agg #[.int .i64 r, .int .i64 n], .agg #[.int .i64 s, .int .i64 m], .int .i64 k] w fun e w' => e = .returned (.bool true) ∧ Below w.heap.size w w' := by
  go_enter Tryd.func3, Tryd.ntmps3
  have h0 := Bn.new hL
  go_wp2_with (fail)
  refine (Bn.call (Bn.push (Bn.push h0 (w.heap.size) #[.int .i64 (r), .int .i64 (n)] 23 (by simp)) (w.heap.size + 1) #[.int .i64 (s), .int .i64 (m)] 23 (by simp)) (fun W hW => next_any r n k W)).mono ?_
  rintro e w1 ⟨rfl, h1⟩
  have c0_0 := blkC (h1.get 0 rfl) 0; have c0_1 := blkC (h1.get 0 rfl) 1; have x0 := blkX (h1.get 0 rfl); have c1_0 := blkC (h1.get 1 rfl) 0; have c1_1 := blkC (h1.get 1 rfl) 1; have x1 := blkX (h1.get 1 rfl)
  go_wp2_with (fail)
  refine (Bn.call (Bn.push h1 (w1.heap.size) #[.int .i64 ((nxt r n k).1), .int .i64 ((nxt r n k).2.1)] 23 (by simp)) (fun W hW => rnext_any r n k W)).mono ?_
  rintro e w2 ⟨rfl, h2⟩
  clear c0_0 c0_1 x0 c1_0 c1_1 x1
  have c0_0 := blkC (h2.get 0 rfl) 0; have c0_1 := blkC (h2.get 0 rfl) 1; have x0 := blkX (h2.get 0 rfl); have c1_0 := blkC (h2.get 1 rfl) 0; have c1_1 := blkC (h2.get 1 rfl) 1; have x1 := blkX (h2.get 1 rfl); have c2_0 := blkC (h2.get 2 rfl) 0; have c2_1 := blkC (h2.get 2 rfl) 1; have x2 := blkX (h2.get 2 rfl)
  go_wp2_with (fail)
  have hR := Lib.hid (Bn.push h2 (w2.heap.size) #[.int .i64 ((nxt r n k).1), .int .i64 ((nxt r n k).2.1)] 23 (by simp))
  clear c0_0 c0_1 x0 c1_0 c1_1 x1 c2_0 c2_1 x2
  clear h2
  have q0_0 := blkC (hR.out.get 0 rfl) 0; have q0_1 := blkC (hR.out.get 0 rfl) 1; have q1_0 := blkC (hR.out.get 1 rfl) 0; have q1_1 := blkC (hR.out.get 1 rfl) 1; have q2_0 := blkC (hR.out.get 2 rfl) 0; have q2_1 := blkC (hR.out.get 2 rfl) 1; have q3_0 := blkC (hR.out.get 3 rfl) 0; have q3_1 := blkC (hR.out.get 3 rfl) 1
  go_region_held3 (fun w' => w'.cell? ⟨w.heap.size, 0, none⟩ = some (.int .i64 (r)) ∧ w'.cell? ⟨w.heap.size, 1, none⟩ = some (.int .i64 (n)) ∧ w'.cell? ⟨w.heap.size + 1, 0, none⟩ = some (.int .i64 (s)) ∧ w'.cell? ⟨w.heap.size + 1, 1, none⟩ = some (.int .i64 (m)) ∧ w'.cell? ⟨w1.heap.size, 0, none⟩ = some (.int .i64 ((nxt r n k).1)) ∧ w'.cell? ⟨w1.heap.size, 1, none⟩ = some (.int .i64 ((nxt r n k).2.1)) ∧ w'.cell? ⟨w2.heap.size, 0, none⟩ = some (.int .i64 ((nxt r n k).1)) ∧ w'.cell? ⟨w2.heap.size, 1, none⟩ = some (.int .i64 ((nxt r n k).2.1))) (first | exact ⟨q0_0, q0_1, q1_0, q1_1, q2_0, q2_1, q3_0, q3_1⟩ | exact q0_0 | exact q0_1 | exact q1_0 | exact q1_1 | exact q2_0 | exact q2_1 | exact q3_0 | exact q3_1 | (simp [*]; done)) (first
    | (go_at_call 14; refine (Bn.call (by first | exact hR.out | exact hR.out.drew) (fun W hW => check_any r n k W)).mono ?_; rintro e w8 ⟨rfl, hR'⟩; have q0_0 := blkC (hR'.get 0 rfl) 0; have q0_1 := blkC (hR'.get 0 rfl) 1; have q1_0 := blkC (hR'.get 1 rfl) 0; have q1_1 := blkC (hR'.get 1 rfl) 1; have q2_0 := blkC (hR'.get 2 rfl) 0; have q2_1 := blkC (hR'.get 2 rfl) 1; have q3_0 := blkC (hR'.get 3 rfl) 0; have q3_1 := blkC (hR'.get 3 rfl) 1; replace hR := Lib.hid hR'; clear hR')
    | (go_at_call 15; refine (Bn.call (by first | exact hR.out | exact hR.out.drew) (fun W hW => rcheck_any r n k W)).mono ?_; rintro e w8 ⟨rfl, hR'⟩; have q0_0 := blkC (hR'.get 0 rfl) 0; have q0_1 := blkC (hR'.get 0 rfl) 1; have q1_0 := blkC (hR'.get 1 rfl) 0; have q1_1 := blkC (hR'.get 1 rfl) 1; have q2_0 := blkC (hR'.get 2 rfl) 0; have q2_1 := blkC (hR'.get 2 rfl) 1; have q3_0 := blkC (hR'.get 3 rfl) 0; have q3_1 := blkC (hR'.get 3 rfl) 1; replace hR := Lib.hid hR'; clear hR')
    | (go_at_call 16; refine (Bn.call (by first | exact hR.out | exact hR.out.drew) (fun W hW => order_any r n s m W)).mono ?_; rintro e w8 ⟨rfl, hR'⟩; have q0_0 := blkC (hR'.get 0 rfl) 0; have q0_1 := blkC (hR'.get 0 rfl) 1; have q1_0 := blkC (hR'.get 1 rfl) 0; have q1_1 := blkC (hR'.get 1 rfl) 1; have q2_0 := blkC (hR'.get 2 rfl) 0; have q2_1 := blkC (hR'.get 2 rfl) 1; have q3_0 := blkC (hR'.get 3 rfl) 0; have q3_1 := blkC (hR'.get 3 rfl) 1; replace hR := Lib.hid hR'; clear hR')
    | (go_at_call 17; refine (Bn.call (by first | exact hR.out | exact hR.out.drew) (fun W hW => rorder_any r n s m W)).mono ?_; rintro e w8 ⟨rfl, hR'⟩; have q0_0 := blkC (hR'.get 0 rfl) 0; have q0_1 := blkC (hR'.get 0 rfl) 1; have q1_0 := blkC (hR'.get 1 rfl) 0; have q1_1 := blkC (hR'.get 1 rfl) 1; have q2_0 := blkC (hR'.get 2 rfl) 0; have q2_1 := blkC (hR'.get 2 rfl) 1; have q3_0 := blkC (hR'.get 3 rfl) 0; have q3_1 := blkC (hR'.get 3 rfl) 1; replace hR := Lib.hid hR'; clear hR')
    | (go_at_call 18; refine (Bn.call (by first | exact hR.out | exact hR.out.drew) (fun W hW => works_any W hW)).mono ?_; rintro e w8 ⟨rfl, hR'⟩; have q0_0 := blkC (hR'.get 0 rfl) 0; have q0_1 := blkC (hR'.get 0 rfl) 1; have q1_0 := blkC (hR'.get 1 rfl) 0; have q1_1 := blkC (hR'.get 1 rfl) 1; have q2_0 := blkC (hR'.get 2 rfl) 0; have q2_1 := blkC (hR'.get 2 rfl) 1; have q3_0 := blkC (hR'.get 3 rfl) 0; have q3_1 := blkC (hR'.get 3 rfl) 1; replace hR := Lib.hid hR'; clear hR'))
  all_goals
    have B := hR.out.bel
    go_wp2_with (fail)
    go_ret
    exact ⟨by simp, by first | exact B | exact B.drew⟩
end Go.Proofs.YtflpnokhcaepfaaDoor
