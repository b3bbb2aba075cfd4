/- The examples of the chapter hold. -/
import Derived.Test.YtflpnokhcaepfaaDoorBn
import Derived.Test.YtflpnokhcaepfaaDoorParse
import Derived.Test.YtflpnokhcaepfaaDoorFrm
import Derived.Test.YtflpnokhcaepfaaDoorNext
namespace Go.Proofs.YtflpnokhcaepfaaDoor
open Go.RowKit
set_option linter.unusedSimpArgs false
set_option linter.unusedVariables false
set_option linter.unusedSectionVars false
set_option maxRecDepth 10000
theorem wk_t : txtS 5 2 = ⟨#[53, 46, 50]⟩ := by
  rw [txtS_ok (by decide)]
  unfold txt
  rw [Lib.decDigits_one (by decide), Lib.decDigits_one (by decide)]
  rfl
theorem wk_p : prs [48, 53, 46, 50] = (0, 0, 10) := by
  rw [prs_both (v := 5) (u := 2) (by rfl) (by rfl), if_neg]
  rintro ⟨_, h⟩
  unfold txt at h
  rw [Lib.decDigits_one (by decide), Lib.decDigits_one (by decide)] at h
  exact absurd h (by decide)
set_option maxHeartbeats 4000000 in
theorem works_any (w : World) (hL : Ldr w) : Calls Tryd.prog 18 #[] w fun e w' => e = .returned (.bool true) ∧ Below w.heap.size w w' := by
  go_enter Tryd.func18, Tryd.ntmps18
  have h0 := Bn.new hL
  go_wp2_with (fail)
  refine (Bn.call h0 (fun W hW => next_any 5 2 3 W)).mono ?_
  rintro e w1 ⟨he, h1⟩
  rw [show nxt 5 2 3 = (5, 3, 0) from by decide] at he
  subst he
  go_wp2_with (fail)
  refine (Bn.call (Bn.push h1 (w1.heap.size) #[.int .i64 (5), .int .i64 (3)] 23 (by simp)) (fun W hW => next_any 5 2 2 W)).mono ?_
  rintro e w2 ⟨he, h2⟩
  rw [show nxt 5 2 2 = (6, 2, 0) from by decide] at he
  subst he
  have c0_0 := blkC (h2.get 0 rfl) 0; have c0_1 := blkC (h2.get 0 rfl) 1; have x0 := blkX (h2.get 0 rfl)
  go_wp2_with (fail)
  refine (Bn.call (Bn.push h2 (w2.heap.size) #[.int .i64 (6), .int .i64 (2)] 23 (by simp)) (fun W hW => num_any 5 2 3 W)).mono ?_
  rintro e w3 ⟨he, h3⟩
  rw [show num 5 2 3 = (15, 0) from by decide] at he
  subst he
  clear c0_0 c0_1 x0
  have c0_0 := blkC (h3.get 0 rfl) 0; have c0_1 := blkC (h3.get 0 rfl) 1; have x0 := blkX (h3.get 0 rfl); have c1_0 := blkC (h3.get 1 rfl) 0; have c1_1 := blkC (h3.get 1 rfl) 1; have x1 := blkX (h3.get 1 rfl)
  go_wp2_with (fail)
  refine (Bn.call h3 (fun W hW => frm_any 16 3 (by omega) (by omega) W)).mono ?_
  rintro e w4 ⟨he, h4⟩
  rw [show frm 16 3 = (6, 0, 0) from by decide] at he
  subst he
  clear c0_0 c0_1 x0 c1_0 c1_1 x1
  have c0_0 := blkC (h4.get 0 rfl) 0; have c0_1 := blkC (h4.get 0 rfl) 1; have x0 := blkX (h4.get 0 rfl); have c1_0 := blkC (h4.get 1 rfl) 0; have c1_1 := blkC (h4.get 1 rfl) 1; have x1 := blkX (h4.get 1 rfl)
  go_wp2_with (fail)
  refine (Bn.call (Bn.push h4 (w4.heap.size) #[.int .i64 (6), .int .i64 (0)] 23 (by simp)) (fun W hW => text_any 5 2 W hW)).mono ?_
  rintro e w5 ⟨he, h5⟩
  rw [show txtS 5 2 = ⟨#[53, 46, 50]⟩ from wk_t, show chkE 5 2 7 = 0 from by decide] at he
  subst he
  clear c0_0 c0_1 x0 c1_0 c1_1 x1
  have c0_0 := blkC (h5.get 0 rfl) 0; have c0_1 := blkC (h5.get 0 rfl) 1; have x0 := blkX (h5.get 0 rfl); have c1_0 := blkC (h5.get 1 rfl) 0; have c1_1 := blkC (h5.get 1 rfl) 1; have x1 := blkX (h5.get 1 rfl); have c2_0 := blkC (h5.get 2 rfl) 0; have c2_1 := blkC (h5.get 2 rfl) 1; have x2 := blkX (h5.get 2 rfl)
  go_wp2_with (fail)
  refine (Bn.call h5 (fun W hW => parse_any ⟨#[48, 53, 46, 50]⟩ (by decide) W hW)).mono ?_
  rintro e w6 ⟨he, h6⟩
  rw [show prs (ByteArray.mk #[48, 53, 46, 50]).data.toList = (0, 0, 10) from wk_p] at he
  subst he
  clear c0_0 c0_1 x0 c1_0 c1_1 x1 c2_0 c2_1 x2
  have c0_0 := blkC (h6.get 0 rfl) 0; have c0_1 := blkC (h6.get 0 rfl) 1; have x0 := blkX (h6.get 0 rfl); have c1_0 := blkC (h6.get 1 rfl) 0; have c1_1 := blkC (h6.get 1 rfl) 1; have x1 := blkX (h6.get 1 rfl); have c2_0 := blkC (h6.get 2 rfl) 0; have c2_1 := blkC (h6.get 2 rfl) 1; have x2 := blkX (h6.get 2 rfl)
  go_wp2_with (fail)
  refine (Bn.call (Bn.push h6 (w6.heap.size) #[.int .i64 (0), .int .i64 (0)] 23 (by simp)) (fun W hW => order_any 6 0 5 3 W)).mono ?_
  rintro e w7 ⟨he, h7⟩
  rw [show ordI 6 0 5 3 = 1 from by decide] at he
  subst he
  clear c0_0 c0_1 x0 c1_0 c1_1 x1 c2_0 c2_1 x2
  have c0_0 := blkC (h7.get 0 rfl) 0; have c0_1 := blkC (h7.get 0 rfl) 1; have x0 := blkX (h7.get 0 rfl); have c1_0 := blkC (h7.get 1 rfl) 0; have c1_1 := blkC (h7.get 1 rfl) 1; have x1 := blkX (h7.get 1 rfl); have c2_0 := blkC (h7.get 2 rfl) 0; have c2_1 := blkC (h7.get 2 rfl) 1; have x2 := blkX (h7.get 2 rfl); have c3_0 := blkC (h7.get 3 rfl) 0; have c3_1 := blkC (h7.get 3 rfl) 1; have x3 := blkX (h7.get 3 rfl)
  go_wp2_with (fail)
  go_ret
  exact ⟨by simp, by have B := h7.bel; repeat (first | exact B | (refine Below.drew ?_) | (refine below_drewN ?_ _) | (refine Below.setCell ?_ (by have := B.size; simp; try omega) _) | (refine Below.alloc ?_ (by have := B.size; simp; try omega) _))⟩
end Go.Proofs.YtflpnokhcaepfaaDoor
