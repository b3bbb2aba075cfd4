/- BallotTexts' walk. -/
import Derived.Test.YtflpnokhcaepfaaDoorWorks
import Derived.Test.YtflpnokhcaepfaaDoorRefP
namespace Go.Proofs.YtflpnokhcaepfaaDoor
open Go.RowKit
set_option linter.unusedSimpArgs false
set_option linter.unusedVariables false
set_option linter.unusedSectionVars false
set_option maxRecDepth 10000
set_option maxHeartbeats 8000000 in
theorem texts_walk (r n : Int) (rl : -9223372036854775808 ≤ r ∧ r ≤ 9223372036854775807) (nl : -9223372036854775808 ≤ n ∧ n ≤ 9223372036854775807) (s : ByteArray) (hs : s.size ≤ 140737488355328) (w : World) (hL : Ldr w) : Calls Tryd.prog 4 #[.agg #[.int .i64 r, .int .i64 n], .string s] w fun e w' => e = .returned (.bool true) ∧ Below w.heap.size w w' := by
  by_cases hlen : 100 < s.size
  · skip
    go_enter Tryd.func4, Tryd.ntmps4
    have h0 := Bn.new hL
    go_wp2_with (fail)
    refine (Bn.call (Bn.push h0 (w.heap.size) #[.int .i64 (r), .int .i64 (n)] 23 (by simp)) (fun W hW => works_any W hW)).mono ?_
    rintro e w1 ⟨rfl, h1⟩
    have c0_0 := blkC (h1.get 0 rfl) 0; have c0_1 := blkC (h1.get 0 rfl) 1; have x0 := blkX (h1.get 0 rfl)
    go_wp2_with (fail)
    go_ret
    exact ⟨by simp, by have B := h1.bel; repeat (first | exact B | (refine Below.drew ?_) | (refine below_drewN ?_ _) | (refine Below.setCell ?_ (by have := B.size; simp; try omega) _) | (refine Below.alloc ?_ (by have := B.size; simp; try omega) _))⟩
  · skip
    go_enter Tryd.func4, Tryd.ntmps4
    have h0 := Bn.new hL
    go_wp2_with (fail)
    refine (Bn.call (Bn.push h0 (w.heap.size) #[.int .i64 (r), .int .i64 (n)] 23 (by simp)) (fun W hW => text_any r n W hW)).mono ?_
    rintro e w1 ⟨rfl, h1⟩
    have c0_0 := blkC (h1.get 0 rfl) 0; have c0_1 := blkC (h1.get 0 rfl) 1; have x0 := blkX (h1.get 0 rfl)
    go_wp2_with (fail)
    refine (Bn.call h1 (fun W hW => rtext_any r n W hW)).mono ?_
    rintro e w2 ⟨rfl, h2⟩
    clear c0_0 c0_1 x0
    have c0_0 := blkC (h2.get 0 rfl) 0; have c0_1 := blkC (h2.get 0 rfl) 1; have x0 := blkX (h2.get 0 rfl)
    go_wp2_with (fail)
    refine (Bn.call h2 (fun W hW => parse_any s hs W hW)).mono ?_
    rintro e w3 ⟨rfl, h3⟩
    clear c0_0 c0_1 x0
    have c0_0 := blkC (h3.get 0 rfl) 0; have c0_1 := blkC (h3.get 0 rfl) 1; have x0 := blkX (h3.get 0 rfl)
    go_wp2_with (fail)
    refine (Bn.call (Bn.push h3 (w3.heap.size) #[.int .i64 ((prs s.data.toList).1), .int .i64 ((prs s.data.toList).2.1)] 23 (by simp)) (fun W hW => rparse_any s hs W hW)).mono ?_
    rintro e w4 ⟨rfl, h4⟩
    clear c0_0 c0_1 x0
    have c0_0 := blkC (h4.get 0 rfl) 0; have c0_1 := blkC (h4.get 0 rfl) 1; have x0 := blkX (h4.get 0 rfl); have c1_0 := blkC (h4.get 1 rfl) 0; have c1_1 := blkC (h4.get 1 rfl) 1; have x1 := blkX (h4.get 1 rfl)
    go_wp2_with (fail)
    refine (Bn.call (Bn.push h4 (w4.heap.size) #[.int .i64 ((prs s.data.toList).1), .int .i64 ((prs s.data.toList).2.1)] 23 (by simp)) (fun W hW => works_any W hW)).mono ?_
    rintro e w5 ⟨rfl, h5⟩
    clear c0_0 c0_1 x0 c1_0 c1_1 x1
    have c0_0 := blkC (h5.get 0 rfl) 0; have c0_1 := blkC (h5.get 0 rfl) 1; have x0 := blkX (h5.get 0 rfl); have c1_0 := blkC (h5.get 1 rfl) 0; have c1_1 := blkC (h5.get 1 rfl) 1; have x1 := blkX (h5.get 1 rfl); have c2_0 := blkC (h5.get 2 rfl) 0; have c2_1 := blkC (h5.get 2 rfl) 1; have x2 := blkX (h5.get 2 rfl)
    go_wp2_with (fail)
    go_ret
    exact ⟨by simp, by have B := h5.bel; repeat (first | exact B | (refine Below.drew ?_) | (refine below_drewN ?_ _) | (refine Below.setCell ?_ (by have := B.size; simp; try omega) _) | (refine Below.alloc ?_ (by have := B.size; simp; try omega) _))⟩
end Go.Proofs.YtflpnokhcaepfaaDoor
