/- BallotNodes' walk. -/
import Derived.Test.YtflpnokhcaepfaaDoorWorks
import Derived.Test.YtflpnokhcaepfaaDoorMade
namespace Go.Proofs.YtflpnokhcaepfaaDoor
open Go.RowKit
set_option linter.unusedSimpArgs false
set_option linter.unusedVariables false
set_option linter.unusedSectionVars false
set_option maxRecDepth 10000
set_option maxHeartbeats 8000000 in
theorem nodes_lo (r : Int) (hr : 0 ≤ r ∧ r ≤ 4294967295) (d : Int) (hd : 0 ≤ d ∧ d ≤ 255) (n : Int) (nl : -9223372036854775808 ≤ n ∧ n ≤ 9223372036854775807) (R N : Int) (R0 : 1 ≤ R) (R1 : R ≤ 1073741824) (N0 : 0 ≤ N) (N1 : N ≤ 6) (q : Int) (hRe : Hid (mdR r = R)) (hNe : Hid (mdN r d 7 = N)) (hnum : Hid (num R N n = (q, 2))) (hck : Hid (chkE R N n = 2)) (h : n < 1)  (w : World) (hL : Ldr w) : Calls Tryd.prog 9 #[.int .u32 r, .int .u8 d, .int .i64 n] w fun e w' => e = .returned (.bool true) ∧ Below w.heap.size w w' := by
  obtain ⟨nl0, nl1⟩ := nl
  have hz : (R == 0) = false := by simp; omega
  go_enter Tryd.func9, Tryd.ntmps9
  have h0 := Bn.new hL
  go_wp2_with (fail)
  refine (Bn.call h0 (fun W hW => made_any r d 7 hr hd (by omega) W)).mono ?_
  rintro e w1 ⟨he, h1⟩
  rw [hRe.out, hNe.out] at he
  subst he
  go_wp2_with (fail)
  refine (Bn.call (Bn.push h1 (w1.heap.size) #[.int .i64 (R), .int .i64 (N)] 23 (by simp)) (fun W hW => num_any R N n W)).mono ?_
  rintro e w2 ⟨he, h2⟩
  rw [hnum.out] at he
  subst he
  have c0_0 := blkC (h2.get 0 rfl) 0; have c0_1 := blkC (h2.get 0 rfl) 1; have x0 := blkX (h2.get 0 rfl)
  go_wp2_with (fail)
  refine (Bn.call h2 (fun W hW => check_any R N n W)).mono ?_
  rintro e w3 ⟨he, h3⟩
  rw [hck.out] at he
  subst he
  clear c0_0 c0_1 x0
  have c0_0 := blkC (h3.get 0 rfl) 0; have c0_1 := blkC (h3.get 0 rfl) 1; have x0 := blkX (h3.get 0 rfl)
  go_wp2_with (fail)
  refine (Bn.call h3 (fun W hW => works_any W hW)).mono ?_
  rintro e w4 ⟨rfl, h4⟩
  clear c0_0 c0_1 x0
  have c0_0 := blkC (h4.get 0 rfl) 0; have c0_1 := blkC (h4.get 0 rfl) 1; have x0 := blkX (h4.get 0 rfl)
  go_wp2_with (fail)
  go_ret
  exact ⟨by simp, by have B := h4.bel; repeat (first | exact B | (refine Below.drew ?_) | (refine below_drewN ?_ _) | (refine Below.setCell ?_ (by have := B.size; simp; try omega) _) | (refine Below.alloc ?_ (by have := B.size; simp; try omega) _))⟩
set_option maxHeartbeats 8000000 in
theorem nodes_hi (r : Int) (hr : 0 ≤ r ∧ r ≤ 4294967295) (d : Int) (hd : 0 ≤ d ∧ d ≤ 255) (n : Int) (nl : -9223372036854775808 ≤ n ∧ n ≤ 9223372036854775807) (R N : Int) (R0 : 1 ≤ R) (R1 : R ≤ 1073741824) (N0 : 0 ≤ N) (N1 : N ≤ 6) (q : Int) (hRe : Hid (mdR r = R)) (hNe : Hid (mdN r d 7 = N)) (hnum : Hid (num R N n = (q, 2))) (hck : Hid (chkE R N n = 2)) (h1 : 1 ≤ n) (h : 7 < n)  (w : World) (hL : Ldr w) : Calls Tryd.prog 9 #[.int .u32 r, .int .u8 d, .int .i64 n] w fun e w' => e = .returned (.bool true) ∧ Below w.heap.size w w' := by
  obtain ⟨nl0, nl1⟩ := nl
  have hz : (R == 0) = false := by simp; omega
  go_enter Tryd.func9, Tryd.ntmps9
  have h0 := Bn.new hL
  go_wp2_with (fail)
  refine (Bn.call h0 (fun W hW => made_any r d 7 hr hd (by omega) W)).mono ?_
  rintro e w1 ⟨he, h1⟩
  rw [hRe.out, hNe.out] at he
  subst he
  go_wp2_with (fail)
  refine (Bn.call (Bn.push h1 (w1.heap.size) #[.int .i64 (R), .int .i64 (N)] 23 (by simp)) (fun W hW => num_any R N n W)).mono ?_
  rintro e w2 ⟨he, h2⟩
  rw [hnum.out] at he
  subst he
  have c0_0 := blkC (h2.get 0 rfl) 0; have c0_1 := blkC (h2.get 0 rfl) 1; have x0 := blkX (h2.get 0 rfl)
  go_wp2_with (fail)
  refine (Bn.call h2 (fun W hW => check_any R N n W)).mono ?_
  rintro e w3 ⟨he, h3⟩
  rw [hck.out] at he
  subst he
  clear c0_0 c0_1 x0
  have c0_0 := blkC (h3.get 0 rfl) 0; have c0_1 := blkC (h3.get 0 rfl) 1; have x0 := blkX (h3.get 0 rfl)
  go_wp2_with (fail)
  refine (Bn.call h3 (fun W hW => works_any W hW)).mono ?_
  rintro e w4 ⟨rfl, h4⟩
  clear c0_0 c0_1 x0
  have c0_0 := blkC (h4.get 0 rfl) 0; have c0_1 := blkC (h4.get 0 rfl) 1; have x0 := blkX (h4.get 0 rfl)
  go_wp2_with (fail)
  go_ret
  exact ⟨by simp, by have B := h4.bel; repeat (first | exact B | (refine Below.drew ?_) | (refine below_drewN ?_ _) | (refine Below.setCell ?_ (by have := B.size; simp; try omega) _) | (refine Below.alloc ?_ (by have := B.size; simp; try omega) _))⟩
set_option maxHeartbeats 8000000 in
theorem nodes_lo0 (r : Int) (hr : 0 ≤ r ∧ r ≤ 4294967295) (d : Int) (hd : 0 ≤ d ∧ d ≤ 255) (n : Int) (nl : -9223372036854775808 ≤ n ∧ n ≤ 9223372036854775807) (q : Int) (hRe : Hid (mdR r = 0)) (hNe : Hid (mdN r d 7 = 0)) (hnum : Hid (num 0 0 n = (q, 2))) (hck : Hid (chkE 0 0 n = 2)) (h : n < 1)  (w : World) (hL : Ldr w) : Calls Tryd.prog 9 #[.int .u32 r, .int .u8 d, .int .i64 n] w fun e w' => e = .returned (.bool true) ∧ Below w.heap.size w w' := by
  obtain ⟨nl0, nl1⟩ := nl
  go_enter Tryd.func9, Tryd.ntmps9
  have h0 := Bn.new hL
  go_wp2_with (fail)
  refine (Bn.call h0 (fun W hW => made_any r d 7 hr hd (by omega) W)).mono ?_
  rintro e w1 ⟨he, h1⟩
  rw [hRe.out, hNe.out] at he
  subst he
  go_wp2_with (fail)
  refine (Bn.call (Bn.push h1 (w1.heap.size) #[.int .i64 (0), .int .i64 (0)] 23 (by simp)) (fun W hW => num_any 0 0 n W)).mono ?_
  rintro e w2 ⟨he, h2⟩
  rw [hnum.out] at he
  subst he
  have c0_0 := blkC (h2.get 0 rfl) 0; have c0_1 := blkC (h2.get 0 rfl) 1; have x0 := blkX (h2.get 0 rfl)
  go_wp2_with (fail)
  refine (Bn.call h2 (fun W hW => check_any 0 0 n W)).mono ?_
  rintro e w3 ⟨he, h3⟩
  rw [hck.out] at he
  subst he
  clear c0_0 c0_1 x0
  have c0_0 := blkC (h3.get 0 rfl) 0; have c0_1 := blkC (h3.get 0 rfl) 1; have x0 := blkX (h3.get 0 rfl)
  go_wp2_with (fail)
  refine (Bn.call h3 (fun W hW => works_any W hW)).mono ?_
  rintro e w4 ⟨rfl, h4⟩
  clear c0_0 c0_1 x0
  have c0_0 := blkC (h4.get 0 rfl) 0; have c0_1 := blkC (h4.get 0 rfl) 1; have x0 := blkX (h4.get 0 rfl)
  go_wp2_with (fail)
  go_ret
  exact ⟨by simp, by have B := h4.bel; repeat (first | exact B | (refine Below.drew ?_) | (refine below_drewN ?_ _) | (refine Below.setCell ?_ (by have := B.size; simp; try omega) _) | (refine Below.alloc ?_ (by have := B.size; simp; try omega) _))⟩
set_option maxHeartbeats 8000000 in
theorem nodes_hi0 (r : Int) (hr : 0 ≤ r ∧ r ≤ 4294967295) (d : Int) (hd : 0 ≤ d ∧ d ≤ 255) (n : Int) (nl : -9223372036854775808 ≤ n ∧ n ≤ 9223372036854775807) (q : Int) (hRe : Hid (mdR r = 0)) (hNe : Hid (mdN r d 7 = 0)) (hnum : Hid (num 0 0 n = (q, 2))) (hck : Hid (chkE 0 0 n = 2)) (h1 : 1 ≤ n) (h : 7 < n)  (w : World) (hL : Ldr w) : Calls Tryd.prog 9 #[.int .u32 r, .int .u8 d, .int .i64 n] w fun e w' => e = .returned (.bool true) ∧ Below w.heap.size w w' := by
  obtain ⟨nl0, nl1⟩ := nl
  go_enter Tryd.func9, Tryd.ntmps9
  have h0 := Bn.new hL
  go_wp2_with (fail)
  refine (Bn.call h0 (fun W hW => made_any r d 7 hr hd (by omega) W)).mono ?_
  rintro e w1 ⟨he, h1⟩
  rw [hRe.out, hNe.out] at he
  subst he
  go_wp2_with (fail)
  refine (Bn.call (Bn.push h1 (w1.heap.size) #[.int .i64 (0), .int .i64 (0)] 23 (by simp)) (fun W hW => num_any 0 0 n W)).mono ?_
  rintro e w2 ⟨he, h2⟩
  rw [hnum.out] at he
  subst he
  have c0_0 := blkC (h2.get 0 rfl) 0; have c0_1 := blkC (h2.get 0 rfl) 1; have x0 := blkX (h2.get 0 rfl)
  go_wp2_with (fail)
  refine (Bn.call h2 (fun W hW => check_any 0 0 n W)).mono ?_
  rintro e w3 ⟨he, h3⟩
  rw [hck.out] at he
  subst he
  clear c0_0 c0_1 x0
  have c0_0 := blkC (h3.get 0 rfl) 0; have c0_1 := blkC (h3.get 0 rfl) 1; have x0 := blkX (h3.get 0 rfl)
  go_wp2_with (fail)
  refine (Bn.call h3 (fun W hW => works_any W hW)).mono ?_
  rintro e w4 ⟨rfl, h4⟩
  clear c0_0 c0_1 x0
  have c0_0 := blkC (h4.get 0 rfl) 0; have c0_1 := blkC (h4.get 0 rfl) 1; have x0 := blkX (h4.get 0 rfl)
  go_wp2_with (fail)
  go_ret
  exact ⟨by simp, by have B := h4.bel; repeat (first | exact B | (refine Below.drew ?_) | (refine below_drewN ?_ _) | (refine Below.setCell ?_ (by have := B.size; simp; try omega) _) | (refine Below.alloc ?_ (by have := B.size; simp; try omega) _))⟩
set_option maxHeartbeats 8000000 in
theorem nodes_zero (r : Int) (hr : 0 ≤ r ∧ r ≤ 4294967295) (d : Int) (hd : 0 ≤ d ∧ d ≤ 255) (n : Int) (nl : -9223372036854775808 ≤ n ∧ n ≤ 9223372036854775807) (q : Int) (hRe : Hid (mdR r = 0)) (hNe : Hid (mdN r d 7 = 0)) (hnum : Hid (num 0 0 n = (q, 0))) (hck : Hid (chkE 0 0 n = 0)) (h1 : 1 ≤ n) (h : n ≤ 7)  (w : World) (hL : Ldr w) : Calls Tryd.prog 9 #[.int .u32 r, .int .u8 d, .int .i64 n] w fun e w' => e = .returned (.bool true) ∧ Below w.heap.size w w' := by
  obtain ⟨nl0, nl1⟩ := nl
  go_enter Tryd.func9, Tryd.ntmps9
  have h0 := Bn.new hL
  go_wp2_with (fail)
  refine (Bn.call h0 (fun W hW => made_any r d 7 hr hd (by omega) W)).mono ?_
  rintro e w1 ⟨he, h1⟩
  rw [hRe.out, hNe.out] at he
  subst he
  go_wp2_with (fail)
  refine (Bn.call (Bn.push h1 (w1.heap.size) #[.int .i64 (0), .int .i64 (0)] 23 (by simp)) (fun W hW => num_any 0 0 n W)).mono ?_
  rintro e w2 ⟨he, h2⟩
  rw [hnum.out] at he
  subst he
  have c0_0 := blkC (h2.get 0 rfl) 0; have c0_1 := blkC (h2.get 0 rfl) 1; have x0 := blkX (h2.get 0 rfl)
  go_wp2_with (fail)
  refine (Bn.call h2 (fun W hW => check_any 0 0 n W)).mono ?_
  rintro e w3 ⟨he, h3⟩
  rw [hck.out] at he
  subst he
  clear c0_0 c0_1 x0
  have c0_0 := blkC (h3.get 0 rfl) 0; have c0_1 := blkC (h3.get 0 rfl) 1; have x0 := blkX (h3.get 0 rfl)
  go_wp2_with (fail)
  refine (Bn.call h3 (fun W hW => works_any W hW)).mono ?_
  rintro e w4 ⟨rfl, h4⟩
  clear c0_0 c0_1 x0
  have c0_0 := blkC (h4.get 0 rfl) 0; have c0_1 := blkC (h4.get 0 rfl) 1; have x0 := blkX (h4.get 0 rfl)
  go_wp2_with (fail)
  go_ret
  exact ⟨by simp, by have B := h4.bel; repeat (first | exact B | (refine Below.drew ?_) | (refine below_drewN ?_ _) | (refine Below.setCell ?_ (by have := B.size; simp; try omega) _) | (refine Below.alloc ?_ (by have := B.size; simp; try omega) _))⟩
set_option maxHeartbeats 8000000 in
theorem nodes_in (r : Int) (hr : 0 ≤ r ∧ r ≤ 4294967295) (d : Int) (hd : 0 ≤ d ∧ d ≤ 255) (n : Int) (nl : -9223372036854775808 ≤ n ∧ n ≤ 9223372036854775807) (R N : Int) (R0 : 1 ≤ R) (R1 : R ≤ 1073741824) (N0 : 0 ≤ N) (N1 : N ≤ 6) (q : Int) (hRe : Hid (mdR r = R)) (hNe : Hid (mdN r d 7 = N)) (hnum : Hid (num R N n = (q, 0))) (hck : Hid (chkE R N n = 0)) (h1 : 1 ≤ n) (h : n ≤ 7) (h3 : N < n)  (w : World) (hL : Ldr w) : Calls Tryd.prog 9 #[.int .u32 r, .int .u8 d, .int .i64 n] w fun e w' => e = .returned (.bool true) ∧ Below w.heap.size w w' := by
  obtain ⟨nl0, nl1⟩ := nl
  have hz : (R == 0) = false := by simp; omega
  go_enter Tryd.func9, Tryd.ntmps9
  have h0 := Bn.new hL
  go_wp2_with (fail)
  refine (Bn.call h0 (fun W hW => made_any r d 7 hr hd (by omega) W)).mono ?_
  rintro e w1 ⟨he, h1⟩
  rw [hRe.out, hNe.out] at he
  subst he
  go_wp2_with (fail)
  refine (Bn.call (Bn.push h1 (w1.heap.size) #[.int .i64 (R), .int .i64 (N)] 23 (by simp)) (fun W hW => num_any R N n W)).mono ?_
  rintro e w2 ⟨he, h2⟩
  rw [hnum.out] at he
  subst he
  have c0_0 := blkC (h2.get 0 rfl) 0; have c0_1 := blkC (h2.get 0 rfl) 1; have x0 := blkX (h2.get 0 rfl)
  go_wp2_with (fail)
  refine (Bn.call h2 (fun W hW => check_any R N n W)).mono ?_
  rintro e w3 ⟨he, h3⟩
  rw [hck.out] at he
  subst he
  clear c0_0 c0_1 x0
  have c0_0 := blkC (h3.get 0 rfl) 0; have c0_1 := blkC (h3.get 0 rfl) 1; have x0 := blkX (h3.get 0 rfl)
  go_wp2_with (fail)
  refine (Bn.call h3 (fun W hW => works_any W hW)).mono ?_
  rintro e w4 ⟨rfl, h4⟩
  clear c0_0 c0_1 x0
  have c0_0 := blkC (h4.get 0 rfl) 0; have c0_1 := blkC (h4.get 0 rfl) 1; have x0 := blkX (h4.get 0 rfl)
  go_wp2_with (fail)
  go_ret
  exact ⟨by simp, by have B := h4.bel; repeat (first | exact B | (refine Below.drew ?_) | (refine below_drewN ?_ _) | (refine Below.setCell ?_ (by have := B.size; simp; try omega) _) | (refine Below.alloc ?_ (by have := B.size; simp; try omega) _))⟩
set_option maxHeartbeats 8000000 in
theorem nodes_out (r : Int) (hr : 0 ≤ r ∧ r ≤ 4294967295) (d : Int) (hd : 0 ≤ d ∧ d ≤ 255) (n : Int) (nl : -9223372036854775808 ≤ n ∧ n ≤ 9223372036854775807) (R N : Int) (R0 : 1 ≤ R) (R1 : R ≤ 1073741824) (N0 : 0 ≤ N) (N1 : N ≤ 6) (q : Int) (hRe : Hid (mdR r = R)) (hNe : Hid (mdN r d 7 = N)) (hnum : Hid (num R N n = (q, 2))) (hck : Hid (chkE R N n = 2)) (h1 : 1 ≤ n) (h : n ≤ 7) (h3 : n ≤ N)  (w : World) (hL : Ldr w) : Calls Tryd.prog 9 #[.int .u32 r, .int .u8 d, .int .i64 n] w fun e w' => e = .returned (.bool true) ∧ Below w.heap.size w w' := by
  obtain ⟨nl0, nl1⟩ := nl
  have hz : (R == 0) = false := by simp; omega
  go_enter Tryd.func9, Tryd.ntmps9
  have h0 := Bn.new hL
  go_wp2_with (fail)
  refine (Bn.call h0 (fun W hW => made_any r d 7 hr hd (by omega) W)).mono ?_
  rintro e w1 ⟨he, h1⟩
  rw [hRe.out, hNe.out] at he
  subst he
  go_wp2_with (fail)
  refine (Bn.call (Bn.push h1 (w1.heap.size) #[.int .i64 (R), .int .i64 (N)] 23 (by simp)) (fun W hW => num_any R N n W)).mono ?_
  rintro e w2 ⟨he, h2⟩
  rw [hnum.out] at he
  subst he
  have c0_0 := blkC (h2.get 0 rfl) 0; have c0_1 := blkC (h2.get 0 rfl) 1; have x0 := blkX (h2.get 0 rfl)
  go_wp2_with (fail)
  refine (Bn.call h2 (fun W hW => check_any R N n W)).mono ?_
  rintro e w3 ⟨he, h3⟩
  rw [hck.out] at he
  subst he
  clear c0_0 c0_1 x0
  have c0_0 := blkC (h3.get 0 rfl) 0; have c0_1 := blkC (h3.get 0 rfl) 1; have x0 := blkX (h3.get 0 rfl)
  go_wp2_with (fail)
  refine (Bn.call h3 (fun W hW => works_any W hW)).mono ?_
  rintro e w4 ⟨rfl, h4⟩
  clear c0_0 c0_1 x0
  have c0_0 := blkC (h4.get 0 rfl) 0; have c0_1 := blkC (h4.get 0 rfl) 1; have x0 := blkX (h4.get 0 rfl)
  go_wp2_with (fail)
  go_ret
  exact ⟨by simp, by have B := h4.bel; repeat (first | exact B | (refine Below.drew ?_) | (refine below_drewN ?_ _) | (refine Below.setCell ?_ (by have := B.size; simp; try omega) _) | (refine Below.alloc ?_ (by have := B.size; simp; try omega) _))⟩
theorem num_ok {r n k : Int} (h : vld r n k = true) : ∃ q, num r n k = (q, 0) := by
  unfold num; rw [if_pos h]; split
  · exact ⟨_, rfl⟩
  · exact ⟨_, rfl⟩
theorem nodes_walk (r : Int) (hr : 0 ≤ r ∧ r ≤ 4294967295) (d : Int) (hd : 0 ≤ d ∧ d ≤ 255) (n : Int) (nl : -9223372036854775808 ≤ n ∧ n ≤ 9223372036854775807) (w : World) (hL : Ldr w) : Calls Tryd.prog 9 #[.int .u32 r, .int .u8 d, .int .i64 n] w fun e w' => e = .returned (.bool true) ∧ Below w.heap.size w w' := by
  have hv := (vld_iff _ _ _).1 (md_vld r d 7 hr.1 hd.1 (by omega))
  by_cases h0 : mdR r = 0
  · have hN : mdN r d 7 = 0 := by omega
    by_cases h1 : n < 1
    · have hx : vld 0 0 n = false := vld_no (by omega)
      exact nodes_lo0 r hr d hd n nl 0 h0 hN (num_no hx) (chkE_bad hx) h1 w hL
    by_cases h2 : 7 < n
    · have hx : vld 0 0 n = false := vld_no (by omega)
      exact nodes_hi0 r hr d hd n nl 0 h0 hN (num_no hx) (chkE_bad hx) (by omega) h2 w hL
    have hx : vld 0 0 n = true := (vld_iff _ _ _).2 (by omega)
    exact nodes_zero r hr d hd n nl 0 h0 hN (num_zero hx) (chkE_ok hx) (by omega) (by omega) w hL
  · by_cases h1 : n < 1
    · have hx : vld (mdR r) (mdN r d 7) n = false := vld_no (by omega)
      exact nodes_lo r hr d hd n nl _ _ (by omega) (by omega) (by omega) (by omega) 0 rfl rfl (num_no hx) (chkE_bad hx) h1 w hL
    by_cases h2 : 7 < n
    · have hx : vld (mdR r) (mdN r d 7) n = false := vld_no (by omega)
      exact nodes_hi r hr d hd n nl _ _ (by omega) (by omega) (by omega) (by omega) 0 rfl rfl (num_no hx) (chkE_bad hx) (by omega) h2 w hL
    by_cases h3 : mdN r d 7 < n
    · have hx : vld (mdR r) (mdN r d 7) n = true := (vld_iff _ _ _).2 (by omega)
      obtain ⟨q, hq⟩ := num_ok hx
      exact nodes_in r hr d hd n nl _ _ (by omega) (by omega) (by omega) (by omega) q rfl rfl hq (chkE_ok hx) (by omega) (by omega) h3 w hL
    · have hx : vld (mdR r) (mdN r d 7) n = false := vld_no (by omega)
      exact nodes_out r hr d hd n nl _ _ (by omega) (by omega) (by omega) (by omega) 0 rfl rfl (num_no hx) (chkE_bad hx) (by omega) (by omega) (by omega) w hL
end Go.Proofs.YtflpnokhcaepfaaDoor
