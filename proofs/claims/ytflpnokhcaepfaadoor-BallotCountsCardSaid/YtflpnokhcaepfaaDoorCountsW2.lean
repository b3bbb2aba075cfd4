/- BallotCounts' walk at 2 nodes. -/
import Derived.Test.YtflpnokhcaepfaaDoorWorks
import Derived.Test.YtflpnokhcaepfaaDoorMade
namespace Go.Proofs.YtflpnokhcaepfaaDoor
open Go.RowKit
set_option linter.unusedSimpArgs false
set_option linter.unusedVariables false
set_option linter.unusedSectionVars false
set_option maxRecDepth 10000
set_option maxHeartbeats 8000000 in
theorem counts_eq2 (a : Int) (al : 0 ≤ a ∧ a ≤ 255) (r1 : Int) (hr1 : 0 ≤ r1 ∧ r1 ≤ 4294967295) (r2 : Int) (hr2 : 0 ≤ r2 ∧ r2 ≤ 4294967295) (d1 : Int) (hd1 : 0 ≤ d1 ∧ d1 ≤ 255) (d2 : Int) (hd2 : 0 ≤ d2 ∧ d2 ≤ 255) (k : Int) (kl : 0 ≤ k ∧ k ≤ 18446744073709551615) (w : World) (hL : Ldr w) (ha : a % 7 = 1) (R N x S T : Int) (x0 : 0 ≤ x) (x1 : x ≤ 2147483648) (hA1 : Hid (mdR r1 = R)) (hA2 : Hid (mdN r1 d1 2 = N)) (hB1 : Hid (mdR r2 = R)) (hB2 : Hid (mdN r2 d2 2 = N)) (hx : Hid (num R N 2 = (x, 0))) (hc : Hid (frm x 2 = (R, N, 0))) (ho : Hid (ordI R N R N = 0)) (hd : Hid (frm (k % 2147483649) 2 = (S, T, 0))) (hz : Hid (num S T 2 = (k % 2147483649, 0))) (hck : Hid (chkE S T 2 = 0)) (hov : Hid (frm 2147483649 2 = (0, 0, 3))) : Calls Tryd.prog 7 #[.int .u8 a, .int .u32 r1, .int .u32 r2, .int .u8 d1, .int .u8 d2, .int .u64 k] w fun e w' => e = .returned (.bool true) ∧ Below w.heap.size w w' := by
  have hm0 : 0 ≤ k % 2147483649 := by omega
  have hm1 : k % 2147483649 ≤ 2147483648 := by omega
  obtain ⟨al0, al1⟩ := al
  obtain ⟨kl0, kl1⟩ := kl
  go_enter Tryd.func7, Tryd.ntmps7
  have h0 := Bn.new hL
  go_wp2_with (fail)
  refine (Bn.call h0 (fun W hW => made_any r1 d1 2 hr1 hd1 (by omega) W)).mono ?_
  rintro e w1 ⟨he, h1⟩
  rw [hA1.out, hA2.out] at he
  subst he
  go_wp2_with (fail)
  refine (Bn.call (Bn.push h1 (w1.heap.size) #[.int .i64 (R), .int .i64 (N)] 23 (by simp)) (fun W hW => made_any r2 d2 2 hr2 hd2 (by omega) W)).mono ?_
  rintro e w2 ⟨he, h2⟩
  rw [hB1.out, hB2.out] at he
  subst he
  have c0_0 := blkC (h2.get 0 rfl) 0; have c0_1 := blkC (h2.get 0 rfl) 1; have x0 := blkX (h2.get 0 rfl)
  go_wp2_with (fail)
  refine (Bn.call (Bn.push h2 (w2.heap.size) #[.int .i64 (R), .int .i64 (N)] 23 (by simp)) (fun W hW => num_any R N 2 W)).mono ?_
  rintro e w3 ⟨he, h3⟩
  rw [hx.out] at he
  subst he
  clear c0_0 c0_1 x0
  have c0_0 := blkC (h3.get 0 rfl) 0; have c0_1 := blkC (h3.get 0 rfl) 1; have x0 := blkX (h3.get 0 rfl); have c1_0 := blkC (h3.get 1 rfl) 0; have c1_1 := blkC (h3.get 1 rfl) 1; have x1 := blkX (h3.get 1 rfl)
  go_wp2_with (fail)
  refine (Bn.call h3 (fun W hW => num_any R N 2 W)).mono ?_
  rintro e w4 ⟨he, h4⟩
  rw [hx.out] at he
  subst he
  clear c0_0 c0_1 x0 c1_0 c1_1 x1
  have c0_0 := blkC (h4.get 0 rfl) 0; have c0_1 := blkC (h4.get 0 rfl) 1; have x0 := blkX (h4.get 0 rfl); have c1_0 := blkC (h4.get 1 rfl) 0; have c1_1 := blkC (h4.get 1 rfl) 1; have x1 := blkX (h4.get 1 rfl)
  go_wp2_with (fail)
  refine (Bn.call h4 (fun W hW => frm_any x 2 (by omega) (by omega) W)).mono ?_
  rintro e w5 ⟨he, h5⟩
  rw [hc.out] at he
  subst he
  clear c0_0 c0_1 x0 c1_0 c1_1 x1
  have c0_0 := blkC (h5.get 0 rfl) 0; have c0_1 := blkC (h5.get 0 rfl) 1; have x0 := blkX (h5.get 0 rfl); have c1_0 := blkC (h5.get 1 rfl) 0; have c1_1 := blkC (h5.get 1 rfl) 1; have x1 := blkX (h5.get 1 rfl)
  go_wp2_with (fail)
  refine (Bn.call (Bn.push h5 (w5.heap.size) #[.int .i64 (R), .int .i64 (N)] 23 (by simp)) (fun W hW => order_any R N R N W)).mono ?_
  rintro e w6 ⟨he, h6⟩
  rw [ho.out] at he
  subst he
  clear c0_0 c0_1 x0 c1_0 c1_1 x1
  have c0_0 := blkC (h6.get 0 rfl) 0; have c0_1 := blkC (h6.get 0 rfl) 1; have x0 := blkX (h6.get 0 rfl); have c1_0 := blkC (h6.get 1 rfl) 0; have c1_1 := blkC (h6.get 1 rfl) 1; have x1 := blkX (h6.get 1 rfl); have c2_0 := blkC (h6.get 2 rfl) 0; have c2_1 := blkC (h6.get 2 rfl) 1; have x2 := blkX (h6.get 2 rfl)
  go_wp2_with (fail)
  refine (Bn.call h6 (fun W hW => frm_any (k % 2147483649) 2 (by omega) (by omega) W)).mono ?_
  rintro e w7 ⟨he, h7⟩
  rw [hd.out] at he
  subst he
  clear c0_0 c0_1 x0 c1_0 c1_1 x1 c2_0 c2_1 x2
  have c0_0 := blkC (h7.get 0 rfl) 0; have c0_1 := blkC (h7.get 0 rfl) 1; have x0 := blkX (h7.get 0 rfl); have c1_0 := blkC (h7.get 1 rfl) 0; have c1_1 := blkC (h7.get 1 rfl) 1; have x1 := blkX (h7.get 1 rfl); have c2_0 := blkC (h7.get 2 rfl) 0; have c2_1 := blkC (h7.get 2 rfl) 1; have x2 := blkX (h7.get 2 rfl)
  go_wp2_with (fail)
  refine (Bn.call (Bn.push h7 (w7.heap.size) #[.int .i64 (S), .int .i64 (T)] 23 (by simp)) (fun W hW => num_any S T 2 W)).mono ?_
  rintro e w8 ⟨he, h8⟩
  rw [hz.out] at he
  subst he
  clear c0_0 c0_1 x0 c1_0 c1_1 x1 c2_0 c2_1 x2
  have c0_0 := blkC (h8.get 0 rfl) 0; have c0_1 := blkC (h8.get 0 rfl) 1; have x0 := blkX (h8.get 0 rfl); have c1_0 := blkC (h8.get 1 rfl) 0; have c1_1 := blkC (h8.get 1 rfl) 1; have x1 := blkX (h8.get 1 rfl); have c2_0 := blkC (h8.get 2 rfl) 0; have c2_1 := blkC (h8.get 2 rfl) 1; have x2 := blkX (h8.get 2 rfl); have c3_0 := blkC (h8.get 3 rfl) 0; have c3_1 := blkC (h8.get 3 rfl) 1; have x3 := blkX (h8.get 3 rfl)
  go_wp2_with (fail)
  refine (Bn.call h8 (fun W hW => frm_any 2147483649 2 (by omega) (by omega) W)).mono ?_
  rintro e w9 ⟨he, h9⟩
  rw [hov.out] at he
  subst he
  clear c0_0 c0_1 x0 c1_0 c1_1 x1 c2_0 c2_1 x2 c3_0 c3_1 x3
  have c0_0 := blkC (h9.get 0 rfl) 0; have c0_1 := blkC (h9.get 0 rfl) 1; have x0 := blkX (h9.get 0 rfl); have c1_0 := blkC (h9.get 1 rfl) 0; have c1_1 := blkC (h9.get 1 rfl) 1; have x1 := blkX (h9.get 1 rfl); have c2_0 := blkC (h9.get 2 rfl) 0; have c2_1 := blkC (h9.get 2 rfl) 1; have x2 := blkX (h9.get 2 rfl); have c3_0 := blkC (h9.get 3 rfl) 0; have c3_1 := blkC (h9.get 3 rfl) 1; have x3 := blkX (h9.get 3 rfl)
  go_wp2_with (fail)
  refine (Bn.call (Bn.push h9 (w9.heap.size) #[.int .i64 (0), .int .i64 (0)] 23 (by simp)) (fun W hW => check_any S T 2 W)).mono ?_
  rintro e w10 ⟨he, h10⟩
  rw [hck.out] at he
  subst he
  clear c0_0 c0_1 x0 c1_0 c1_1 x1 c2_0 c2_1 x2 c3_0 c3_1 x3
  have c0_0 := blkC (h10.get 0 rfl) 0; have c0_1 := blkC (h10.get 0 rfl) 1; have x0 := blkX (h10.get 0 rfl); have c1_0 := blkC (h10.get 1 rfl) 0; have c1_1 := blkC (h10.get 1 rfl) 1; have x1 := blkX (h10.get 1 rfl); have c2_0 := blkC (h10.get 2 rfl) 0; have c2_1 := blkC (h10.get 2 rfl) 1; have x2 := blkX (h10.get 2 rfl); have c3_0 := blkC (h10.get 3 rfl) 0; have c3_1 := blkC (h10.get 3 rfl) 1; have x3 := blkX (h10.get 3 rfl); have c4_0 := blkC (h10.get 4 rfl) 0; have c4_1 := blkC (h10.get 4 rfl) 1; have x4 := blkX (h10.get 4 rfl)
  go_wp2_with (fail)
  refine (Bn.call h10 (fun W hW => works_any W hW)).mono ?_
  rintro e w11 ⟨rfl, h11⟩
  clear c0_0 c0_1 x0 c1_0 c1_1 x1 c2_0 c2_1 x2 c3_0 c3_1 x3 c4_0 c4_1 x4
  have c0_0 := blkC (h11.get 0 rfl) 0; have c0_1 := blkC (h11.get 0 rfl) 1; have x0 := blkX (h11.get 0 rfl); have c1_0 := blkC (h11.get 1 rfl) 0; have c1_1 := blkC (h11.get 1 rfl) 1; have x1 := blkX (h11.get 1 rfl); have c2_0 := blkC (h11.get 2 rfl) 0; have c2_1 := blkC (h11.get 2 rfl) 1; have x2 := blkX (h11.get 2 rfl); have c3_0 := blkC (h11.get 3 rfl) 0; have c3_1 := blkC (h11.get 3 rfl) 1; have x3 := blkX (h11.get 3 rfl); have c4_0 := blkC (h11.get 4 rfl) 0; have c4_1 := blkC (h11.get 4 rfl) 1; have x4 := blkX (h11.get 4 rfl)
  go_wp2_with (fail)
  go_ret
  exact ⟨by simp, by have B := h11.bel; repeat (first | exact B | (refine Below.drew ?_) | (refine below_drewN ?_ _) | (refine Below.setCell ?_ (by have := B.size; simp; try omega) _) | (refine Below.alloc ?_ (by have := B.size; simp; try omega) _))⟩
set_option maxHeartbeats 8000000 in
theorem counts_lr2 (a : Int) (al : 0 ≤ a ∧ a ≤ 255) (r1 : Int) (hr1 : 0 ≤ r1 ∧ r1 ≤ 4294967295) (r2 : Int) (hr2 : 0 ≤ r2 ∧ r2 ≤ 4294967295) (d1 : Int) (hd1 : 0 ≤ d1 ∧ d1 ≤ 255) (d2 : Int) (hd2 : 0 ≤ d2 ∧ d2 ≤ 255) (k : Int) (kl : 0 ≤ k ∧ k ≤ 18446744073709551615) (w : World) (hL : Ldr w) (ha : a % 7 = 1) (R N x S T : Int) (R2 N2 y : Int) (x0 : 0 ≤ x) (x1 : x ≤ 2147483648) (hA1 : Hid (mdR r1 = R)) (hA2 : Hid (mdN r1 d1 2 = N)) (hB1 : Hid (mdR r2 = R2)) (hB2 : Hid (mdN r2 d2 2 = N2)) (hx : Hid (num R N 2 = (x, 0))) (hc : Hid (frm x 2 = (R, N, 0))) (ho : Hid (ordI R N R2 N2 = -1)) (hd : Hid (frm (k % 2147483649) 2 = (S, T, 0))) (hz : Hid (num S T 2 = (k % 2147483649, 0))) (hck : Hid (chkE S T 2 = 0)) (hov : Hid (frm 2147483649 2 = (0, 0, 3))) (hy : Hid (num R2 N2 2 = (y, 0))) (hlt : x < y) (hb : (x == y) = false) (he : (R == R2) = false) : Calls Tryd.prog 7 #[.int .u8 a, .int .u32 r1, .int .u32 r2, .int .u8 d1, .int .u8 d2, .int .u64 k] w fun e w' => e = .returned (.bool true) ∧ Below w.heap.size w w' := by
  have hm0 : 0 ≤ k % 2147483649 := by omega
  have hm1 : k % 2147483649 ≤ 2147483648 := by omega
  obtain ⟨al0, al1⟩ := al
  obtain ⟨kl0, kl1⟩ := kl
  go_enter Tryd.func7, Tryd.ntmps7
  have h0 := Bn.new hL
  go_wp2_with (fail)
  refine (Bn.call h0 (fun W hW => made_any r1 d1 2 hr1 hd1 (by omega) W)).mono ?_
  rintro e w1 ⟨he, h1⟩
  rw [hA1.out, hA2.out] at he
  subst he
  go_wp2_with (fail)
  refine (Bn.call (Bn.push h1 (w1.heap.size) #[.int .i64 (R), .int .i64 (N)] 23 (by simp)) (fun W hW => made_any r2 d2 2 hr2 hd2 (by omega) W)).mono ?_
  rintro e w2 ⟨he, h2⟩
  rw [hB1.out, hB2.out] at he
  subst he
  have c0_0 := blkC (h2.get 0 rfl) 0; have c0_1 := blkC (h2.get 0 rfl) 1; have x0 := blkX (h2.get 0 rfl)
  go_wp2_with (fail)
  refine (Bn.call (Bn.push h2 (w2.heap.size) #[.int .i64 (R2), .int .i64 (N2)] 23 (by simp)) (fun W hW => num_any R N 2 W)).mono ?_
  rintro e w3 ⟨he, h3⟩
  rw [hx.out] at he
  subst he
  clear c0_0 c0_1 x0
  have c0_0 := blkC (h3.get 0 rfl) 0; have c0_1 := blkC (h3.get 0 rfl) 1; have x0 := blkX (h3.get 0 rfl); have c1_0 := blkC (h3.get 1 rfl) 0; have c1_1 := blkC (h3.get 1 rfl) 1; have x1 := blkX (h3.get 1 rfl)
  go_wp2_with (fail)
  refine (Bn.call h3 (fun W hW => num_any R2 N2 2 W)).mono ?_
  rintro e w4 ⟨he, h4⟩
  rw [hy.out] at he
  subst he
  clear c0_0 c0_1 x0 c1_0 c1_1 x1
  have c0_0 := blkC (h4.get 0 rfl) 0; have c0_1 := blkC (h4.get 0 rfl) 1; have x0 := blkX (h4.get 0 rfl); have c1_0 := blkC (h4.get 1 rfl) 0; have c1_1 := blkC (h4.get 1 rfl) 1; have x1 := blkX (h4.get 1 rfl)
  go_wp2_with (fail)
  refine (Bn.call h4 (fun W hW => frm_any x 2 (by omega) (by omega) W)).mono ?_
  rintro e w5 ⟨he, h5⟩
  rw [hc.out] at he
  subst he
  clear c0_0 c0_1 x0 c1_0 c1_1 x1
  have c0_0 := blkC (h5.get 0 rfl) 0; have c0_1 := blkC (h5.get 0 rfl) 1; have x0 := blkX (h5.get 0 rfl); have c1_0 := blkC (h5.get 1 rfl) 0; have c1_1 := blkC (h5.get 1 rfl) 1; have x1 := blkX (h5.get 1 rfl)
  go_wp2_with (fail)
  refine (Bn.call (Bn.push h5 (w5.heap.size) #[.int .i64 (R), .int .i64 (N)] 23 (by simp)) (fun W hW => order_any R N R2 N2 W)).mono ?_
  rintro e w6 ⟨he, h6⟩
  rw [ho.out] at he
  subst he
  clear c0_0 c0_1 x0 c1_0 c1_1 x1
  have c0_0 := blkC (h6.get 0 rfl) 0; have c0_1 := blkC (h6.get 0 rfl) 1; have x0 := blkX (h6.get 0 rfl); have c1_0 := blkC (h6.get 1 rfl) 0; have c1_1 := blkC (h6.get 1 rfl) 1; have x1 := blkX (h6.get 1 rfl); have c2_0 := blkC (h6.get 2 rfl) 0; have c2_1 := blkC (h6.get 2 rfl) 1; have x2 := blkX (h6.get 2 rfl)
  go_wp2_with (fail)
  refine (Bn.call h6 (fun W hW => frm_any (k % 2147483649) 2 (by omega) (by omega) W)).mono ?_
  rintro e w7 ⟨he, h7⟩
  rw [hd.out] at he
  subst he
  clear c0_0 c0_1 x0 c1_0 c1_1 x1 c2_0 c2_1 x2
  have c0_0 := blkC (h7.get 0 rfl) 0; have c0_1 := blkC (h7.get 0 rfl) 1; have x0 := blkX (h7.get 0 rfl); have c1_0 := blkC (h7.get 1 rfl) 0; have c1_1 := blkC (h7.get 1 rfl) 1; have x1 := blkX (h7.get 1 rfl); have c2_0 := blkC (h7.get 2 rfl) 0; have c2_1 := blkC (h7.get 2 rfl) 1; have x2 := blkX (h7.get 2 rfl)
  go_wp2_with (fail)
  refine (Bn.call (Bn.push h7 (w7.heap.size) #[.int .i64 (S), .int .i64 (T)] 23 (by simp)) (fun W hW => num_any S T 2 W)).mono ?_
  rintro e w8 ⟨he, h8⟩
  rw [hz.out] at he
  subst he
  clear c0_0 c0_1 x0 c1_0 c1_1 x1 c2_0 c2_1 x2
  have c0_0 := blkC (h8.get 0 rfl) 0; have c0_1 := blkC (h8.get 0 rfl) 1; have x0 := blkX (h8.get 0 rfl); have c1_0 := blkC (h8.get 1 rfl) 0; have c1_1 := blkC (h8.get 1 rfl) 1; have x1 := blkX (h8.get 1 rfl); have c2_0 := blkC (h8.get 2 rfl) 0; have c2_1 := blkC (h8.get 2 rfl) 1; have x2 := blkX (h8.get 2 rfl); have c3_0 := blkC (h8.get 3 rfl) 0; have c3_1 := blkC (h8.get 3 rfl) 1; have x3 := blkX (h8.get 3 rfl)
  go_wp2_with (fail)
  refine (Bn.call h8 (fun W hW => frm_any 2147483649 2 (by omega) (by omega) W)).mono ?_
  rintro e w9 ⟨he, h9⟩
  rw [hov.out] at he
  subst he
  clear c0_0 c0_1 x0 c1_0 c1_1 x1 c2_0 c2_1 x2 c3_0 c3_1 x3
  have c0_0 := blkC (h9.get 0 rfl) 0; have c0_1 := blkC (h9.get 0 rfl) 1; have x0 := blkX (h9.get 0 rfl); have c1_0 := blkC (h9.get 1 rfl) 0; have c1_1 := blkC (h9.get 1 rfl) 1; have x1 := blkX (h9.get 1 rfl); have c2_0 := blkC (h9.get 2 rfl) 0; have c2_1 := blkC (h9.get 2 rfl) 1; have x2 := blkX (h9.get 2 rfl); have c3_0 := blkC (h9.get 3 rfl) 0; have c3_1 := blkC (h9.get 3 rfl) 1; have x3 := blkX (h9.get 3 rfl)
  go_wp2_with (fail)
  refine (Bn.call (Bn.push h9 (w9.heap.size) #[.int .i64 (0), .int .i64 (0)] 23 (by simp)) (fun W hW => check_any S T 2 W)).mono ?_
  rintro e w10 ⟨he, h10⟩
  rw [hck.out] at he
  subst he
  clear c0_0 c0_1 x0 c1_0 c1_1 x1 c2_0 c2_1 x2 c3_0 c3_1 x3
  have c0_0 := blkC (h10.get 0 rfl) 0; have c0_1 := blkC (h10.get 0 rfl) 1; have x0 := blkX (h10.get 0 rfl); have c1_0 := blkC (h10.get 1 rfl) 0; have c1_1 := blkC (h10.get 1 rfl) 1; have x1 := blkX (h10.get 1 rfl); have c2_0 := blkC (h10.get 2 rfl) 0; have c2_1 := blkC (h10.get 2 rfl) 1; have x2 := blkX (h10.get 2 rfl); have c3_0 := blkC (h10.get 3 rfl) 0; have c3_1 := blkC (h10.get 3 rfl) 1; have x3 := blkX (h10.get 3 rfl); have c4_0 := blkC (h10.get 4 rfl) 0; have c4_1 := blkC (h10.get 4 rfl) 1; have x4 := blkX (h10.get 4 rfl)
  go_wp2_with (fail)
  refine (Bn.call h10 (fun W hW => works_any W hW)).mono ?_
  rintro e w11 ⟨rfl, h11⟩
  clear c0_0 c0_1 x0 c1_0 c1_1 x1 c2_0 c2_1 x2 c3_0 c3_1 x3 c4_0 c4_1 x4
  have c0_0 := blkC (h11.get 0 rfl) 0; have c0_1 := blkC (h11.get 0 rfl) 1; have x0 := blkX (h11.get 0 rfl); have c1_0 := blkC (h11.get 1 rfl) 0; have c1_1 := blkC (h11.get 1 rfl) 1; have x1 := blkX (h11.get 1 rfl); have c2_0 := blkC (h11.get 2 rfl) 0; have c2_1 := blkC (h11.get 2 rfl) 1; have x2 := blkX (h11.get 2 rfl); have c3_0 := blkC (h11.get 3 rfl) 0; have c3_1 := blkC (h11.get 3 rfl) 1; have x3 := blkX (h11.get 3 rfl); have c4_0 := blkC (h11.get 4 rfl) 0; have c4_1 := blkC (h11.get 4 rfl) 1; have x4 := blkX (h11.get 4 rfl)
  go_wp2_with (fail)
  go_ret
  exact ⟨by simp, by have B := h11.bel; repeat (first | exact B | (refine Below.drew ?_) | (refine below_drewN ?_ _) | (refine Below.setCell ?_ (by have := B.size; simp; try omega) _) | (refine Below.alloc ?_ (by have := B.size; simp; try omega) _))⟩
set_option maxHeartbeats 8000000 in
theorem counts_ln2 (a : Int) (al : 0 ≤ a ∧ a ≤ 255) (r1 : Int) (hr1 : 0 ≤ r1 ∧ r1 ≤ 4294967295) (r2 : Int) (hr2 : 0 ≤ r2 ∧ r2 ≤ 4294967295) (d1 : Int) (hd1 : 0 ≤ d1 ∧ d1 ≤ 255) (d2 : Int) (hd2 : 0 ≤ d2 ∧ d2 ≤ 255) (k : Int) (kl : 0 ≤ k ∧ k ≤ 18446744073709551615) (w : World) (hL : Ldr w) (ha : a % 7 = 1) (R N x S T : Int) (N2 y : Int) (x0 : 0 ≤ x) (x1 : x ≤ 2147483648) (hA1 : Hid (mdR r1 = R)) (hA2 : Hid (mdN r1 d1 2 = N)) (hB1 : Hid (mdR r2 = R)) (hB2 : Hid (mdN r2 d2 2 = N2)) (hx : Hid (num R N 2 = (x, 0))) (hc : Hid (frm x 2 = (R, N, 0))) (ho : Hid (ordI R N R N2 = -1)) (hd : Hid (frm (k % 2147483649) 2 = (S, T, 0))) (hz : Hid (num S T 2 = (k % 2147483649, 0))) (hck : Hid (chkE S T 2 = 0)) (hov : Hid (frm 2147483649 2 = (0, 0, 3))) (hy : Hid (num R N2 2 = (y, 0))) (hlt : x < y) (hb : (x == y) = false) (he : (N == N2) = false) : Calls Tryd.prog 7 #[.int .u8 a, .int .u32 r1, .int .u32 r2, .int .u8 d1, .int .u8 d2, .int .u64 k] w fun e w' => e = .returned (.bool true) ∧ Below w.heap.size w w' := by
  have hm0 : 0 ≤ k % 2147483649 := by omega
  have hm1 : k % 2147483649 ≤ 2147483648 := by omega
  obtain ⟨al0, al1⟩ := al
  obtain ⟨kl0, kl1⟩ := kl
  go_enter Tryd.func7, Tryd.ntmps7
  have h0 := Bn.new hL
  go_wp2_with (fail)
  refine (Bn.call h0 (fun W hW => made_any r1 d1 2 hr1 hd1 (by omega) W)).mono ?_
  rintro e w1 ⟨he, h1⟩
  rw [hA1.out, hA2.out] at he
  subst he
  go_wp2_with (fail)
  refine (Bn.call (Bn.push h1 (w1.heap.size) #[.int .i64 (R), .int .i64 (N)] 23 (by simp)) (fun W hW => made_any r2 d2 2 hr2 hd2 (by omega) W)).mono ?_
  rintro e w2 ⟨he, h2⟩
  rw [hB1.out, hB2.out] at he
  subst he
  have c0_0 := blkC (h2.get 0 rfl) 0; have c0_1 := blkC (h2.get 0 rfl) 1; have x0 := blkX (h2.get 0 rfl)
  go_wp2_with (fail)
  refine (Bn.call (Bn.push h2 (w2.heap.size) #[.int .i64 (R), .int .i64 (N2)] 23 (by simp)) (fun W hW => num_any R N 2 W)).mono ?_
  rintro e w3 ⟨he, h3⟩
  rw [hx.out] at he
  subst he
  clear c0_0 c0_1 x0
  have c0_0 := blkC (h3.get 0 rfl) 0; have c0_1 := blkC (h3.get 0 rfl) 1; have x0 := blkX (h3.get 0 rfl); have c1_0 := blkC (h3.get 1 rfl) 0; have c1_1 := blkC (h3.get 1 rfl) 1; have x1 := blkX (h3.get 1 rfl)
  go_wp2_with (fail)
  refine (Bn.call h3 (fun W hW => num_any R N2 2 W)).mono ?_
  rintro e w4 ⟨he, h4⟩
  rw [hy.out] at he
  subst he
  clear c0_0 c0_1 x0 c1_0 c1_1 x1
  have c0_0 := blkC (h4.get 0 rfl) 0; have c0_1 := blkC (h4.get 0 rfl) 1; have x0 := blkX (h4.get 0 rfl); have c1_0 := blkC (h4.get 1 rfl) 0; have c1_1 := blkC (h4.get 1 rfl) 1; have x1 := blkX (h4.get 1 rfl)
  go_wp2_with (fail)
  refine (Bn.call h4 (fun W hW => frm_any x 2 (by omega) (by omega) W)).mono ?_
  rintro e w5 ⟨he, h5⟩
  rw [hc.out] at he
  subst he
  clear c0_0 c0_1 x0 c1_0 c1_1 x1
  have c0_0 := blkC (h5.get 0 rfl) 0; have c0_1 := blkC (h5.get 0 rfl) 1; have x0 := blkX (h5.get 0 rfl); have c1_0 := blkC (h5.get 1 rfl) 0; have c1_1 := blkC (h5.get 1 rfl) 1; have x1 := blkX (h5.get 1 rfl)
  go_wp2_with (fail)
  refine (Bn.call (Bn.push h5 (w5.heap.size) #[.int .i64 (R), .int .i64 (N)] 23 (by simp)) (fun W hW => order_any R N R N2 W)).mono ?_
  rintro e w6 ⟨he, h6⟩
  rw [ho.out] at he
  subst he
  clear c0_0 c0_1 x0 c1_0 c1_1 x1
  have c0_0 := blkC (h6.get 0 rfl) 0; have c0_1 := blkC (h6.get 0 rfl) 1; have x0 := blkX (h6.get 0 rfl); have c1_0 := blkC (h6.get 1 rfl) 0; have c1_1 := blkC (h6.get 1 rfl) 1; have x1 := blkX (h6.get 1 rfl); have c2_0 := blkC (h6.get 2 rfl) 0; have c2_1 := blkC (h6.get 2 rfl) 1; have x2 := blkX (h6.get 2 rfl)
  go_wp2_with (fail)
  refine (Bn.call h6 (fun W hW => frm_any (k % 2147483649) 2 (by omega) (by omega) W)).mono ?_
  rintro e w7 ⟨he, h7⟩
  rw [hd.out] at he
  subst he
  clear c0_0 c0_1 x0 c1_0 c1_1 x1 c2_0 c2_1 x2
  have c0_0 := blkC (h7.get 0 rfl) 0; have c0_1 := blkC (h7.get 0 rfl) 1; have x0 := blkX (h7.get 0 rfl); have c1_0 := blkC (h7.get 1 rfl) 0; have c1_1 := blkC (h7.get 1 rfl) 1; have x1 := blkX (h7.get 1 rfl); have c2_0 := blkC (h7.get 2 rfl) 0; have c2_1 := blkC (h7.get 2 rfl) 1; have x2 := blkX (h7.get 2 rfl)
  go_wp2_with (fail)
  refine (Bn.call (Bn.push h7 (w7.heap.size) #[.int .i64 (S), .int .i64 (T)] 23 (by simp)) (fun W hW => num_any S T 2 W)).mono ?_
  rintro e w8 ⟨he, h8⟩
  rw [hz.out] at he
  subst he
  clear c0_0 c0_1 x0 c1_0 c1_1 x1 c2_0 c2_1 x2
  have c0_0 := blkC (h8.get 0 rfl) 0; have c0_1 := blkC (h8.get 0 rfl) 1; have x0 := blkX (h8.get 0 rfl); have c1_0 := blkC (h8.get 1 rfl) 0; have c1_1 := blkC (h8.get 1 rfl) 1; have x1 := blkX (h8.get 1 rfl); have c2_0 := blkC (h8.get 2 rfl) 0; have c2_1 := blkC (h8.get 2 rfl) 1; have x2 := blkX (h8.get 2 rfl); have c3_0 := blkC (h8.get 3 rfl) 0; have c3_1 := blkC (h8.get 3 rfl) 1; have x3 := blkX (h8.get 3 rfl)
  go_wp2_with (fail)
  refine (Bn.call h8 (fun W hW => frm_any 2147483649 2 (by omega) (by omega) W)).mono ?_
  rintro e w9 ⟨he, h9⟩
  rw [hov.out] at he
  subst he
  clear c0_0 c0_1 x0 c1_0 c1_1 x1 c2_0 c2_1 x2 c3_0 c3_1 x3
  have c0_0 := blkC (h9.get 0 rfl) 0; have c0_1 := blkC (h9.get 0 rfl) 1; have x0 := blkX (h9.get 0 rfl); have c1_0 := blkC (h9.get 1 rfl) 0; have c1_1 := blkC (h9.get 1 rfl) 1; have x1 := blkX (h9.get 1 rfl); have c2_0 := blkC (h9.get 2 rfl) 0; have c2_1 := blkC (h9.get 2 rfl) 1; have x2 := blkX (h9.get 2 rfl); have c3_0 := blkC (h9.get 3 rfl) 0; have c3_1 := blkC (h9.get 3 rfl) 1; have x3 := blkX (h9.get 3 rfl)
  go_wp2_with (fail)
  refine (Bn.call (Bn.push h9 (w9.heap.size) #[.int .i64 (0), .int .i64 (0)] 23 (by simp)) (fun W hW => check_any S T 2 W)).mono ?_
  rintro e w10 ⟨he, h10⟩
  rw [hck.out] at he
  subst he
  clear c0_0 c0_1 x0 c1_0 c1_1 x1 c2_0 c2_1 x2 c3_0 c3_1 x3
  have c0_0 := blkC (h10.get 0 rfl) 0; have c0_1 := blkC (h10.get 0 rfl) 1; have x0 := blkX (h10.get 0 rfl); have c1_0 := blkC (h10.get 1 rfl) 0; have c1_1 := blkC (h10.get 1 rfl) 1; have x1 := blkX (h10.get 1 rfl); have c2_0 := blkC (h10.get 2 rfl) 0; have c2_1 := blkC (h10.get 2 rfl) 1; have x2 := blkX (h10.get 2 rfl); have c3_0 := blkC (h10.get 3 rfl) 0; have c3_1 := blkC (h10.get 3 rfl) 1; have x3 := blkX (h10.get 3 rfl); have c4_0 := blkC (h10.get 4 rfl) 0; have c4_1 := blkC (h10.get 4 rfl) 1; have x4 := blkX (h10.get 4 rfl)
  go_wp2_with (fail)
  refine (Bn.call h10 (fun W hW => works_any W hW)).mono ?_
  rintro e w11 ⟨rfl, h11⟩
  clear c0_0 c0_1 x0 c1_0 c1_1 x1 c2_0 c2_1 x2 c3_0 c3_1 x3 c4_0 c4_1 x4
  have c0_0 := blkC (h11.get 0 rfl) 0; have c0_1 := blkC (h11.get 0 rfl) 1; have x0 := blkX (h11.get 0 rfl); have c1_0 := blkC (h11.get 1 rfl) 0; have c1_1 := blkC (h11.get 1 rfl) 1; have x1 := blkX (h11.get 1 rfl); have c2_0 := blkC (h11.get 2 rfl) 0; have c2_1 := blkC (h11.get 2 rfl) 1; have x2 := blkX (h11.get 2 rfl); have c3_0 := blkC (h11.get 3 rfl) 0; have c3_1 := blkC (h11.get 3 rfl) 1; have x3 := blkX (h11.get 3 rfl); have c4_0 := blkC (h11.get 4 rfl) 0; have c4_1 := blkC (h11.get 4 rfl) 1; have x4 := blkX (h11.get 4 rfl)
  go_wp2_with (fail)
  go_ret
  exact ⟨by simp, by have B := h11.bel; repeat (first | exact B | (refine Below.drew ?_) | (refine below_drewN ?_ _) | (refine Below.setCell ?_ (by have := B.size; simp; try omega) _) | (refine Below.alloc ?_ (by have := B.size; simp; try omega) _))⟩
set_option maxHeartbeats 8000000 in
theorem counts_gr2 (a : Int) (al : 0 ≤ a ∧ a ≤ 255) (r1 : Int) (hr1 : 0 ≤ r1 ∧ r1 ≤ 4294967295) (r2 : Int) (hr2 : 0 ≤ r2 ∧ r2 ≤ 4294967295) (d1 : Int) (hd1 : 0 ≤ d1 ∧ d1 ≤ 255) (d2 : Int) (hd2 : 0 ≤ d2 ∧ d2 ≤ 255) (k : Int) (kl : 0 ≤ k ∧ k ≤ 18446744073709551615) (w : World) (hL : Ldr w) (ha : a % 7 = 1) (R N x S T : Int) (R2 N2 y : Int) (x0 : 0 ≤ x) (x1 : x ≤ 2147483648) (hA1 : Hid (mdR r1 = R)) (hA2 : Hid (mdN r1 d1 2 = N)) (hB1 : Hid (mdR r2 = R2)) (hB2 : Hid (mdN r2 d2 2 = N2)) (hx : Hid (num R N 2 = (x, 0))) (hc : Hid (frm x 2 = (R, N, 0))) (ho : Hid (ordI R N R2 N2 = 1)) (hd : Hid (frm (k % 2147483649) 2 = (S, T, 0))) (hz : Hid (num S T 2 = (k % 2147483649, 0))) (hck : Hid (chkE S T 2 = 0)) (hov : Hid (frm 2147483649 2 = (0, 0, 3))) (hy : Hid (num R2 N2 2 = (y, 0))) (hlt : y < x) (hb : (x == y) = false) (he : (R == R2) = false) : Calls Tryd.prog 7 #[.int .u8 a, .int .u32 r1, .int .u32 r2, .int .u8 d1, .int .u8 d2, .int .u64 k] w fun e w' => e = .returned (.bool true) ∧ Below w.heap.size w w' := by
  have hm0 : 0 ≤ k % 2147483649 := by omega
  have hm1 : k % 2147483649 ≤ 2147483648 := by omega
  obtain ⟨al0, al1⟩ := al
  obtain ⟨kl0, kl1⟩ := kl
  go_enter Tryd.func7, Tryd.ntmps7
  have h0 := Bn.new hL
  go_wp2_with (fail)
  refine (Bn.call h0 (fun W hW => made_any r1 d1 2 hr1 hd1 (by omega) W)).mono ?_
  rintro e w1 ⟨he, h1⟩
  rw [hA1.out, hA2.out] at he
  subst he
  go_wp2_with (fail)
  refine (Bn.call (Bn.push h1 (w1.heap.size) #[.int .i64 (R), .int .i64 (N)] 23 (by simp)) (fun W hW => made_any r2 d2 2 hr2 hd2 (by omega) W)).mono ?_
  rintro e w2 ⟨he, h2⟩
  rw [hB1.out, hB2.out] at he
  subst he
  have c0_0 := blkC (h2.get 0 rfl) 0; have c0_1 := blkC (h2.get 0 rfl) 1; have x0 := blkX (h2.get 0 rfl)
  go_wp2_with (fail)
  refine (Bn.call (Bn.push h2 (w2.heap.size) #[.int .i64 (R2), .int .i64 (N2)] 23 (by simp)) (fun W hW => num_any R N 2 W)).mono ?_
  rintro e w3 ⟨he, h3⟩
  rw [hx.out] at he
  subst he
  clear c0_0 c0_1 x0
  have c0_0 := blkC (h3.get 0 rfl) 0; have c0_1 := blkC (h3.get 0 rfl) 1; have x0 := blkX (h3.get 0 rfl); have c1_0 := blkC (h3.get 1 rfl) 0; have c1_1 := blkC (h3.get 1 rfl) 1; have x1 := blkX (h3.get 1 rfl)
  go_wp2_with (fail)
  refine (Bn.call h3 (fun W hW => num_any R2 N2 2 W)).mono ?_
  rintro e w4 ⟨he, h4⟩
  rw [hy.out] at he
  subst he
  clear c0_0 c0_1 x0 c1_0 c1_1 x1
  have c0_0 := blkC (h4.get 0 rfl) 0; have c0_1 := blkC (h4.get 0 rfl) 1; have x0 := blkX (h4.get 0 rfl); have c1_0 := blkC (h4.get 1 rfl) 0; have c1_1 := blkC (h4.get 1 rfl) 1; have x1 := blkX (h4.get 1 rfl)
  go_wp2_with (fail)
  refine (Bn.call h4 (fun W hW => frm_any x 2 (by omega) (by omega) W)).mono ?_
  rintro e w5 ⟨he, h5⟩
  rw [hc.out] at he
  subst he
  clear c0_0 c0_1 x0 c1_0 c1_1 x1
  have c0_0 := blkC (h5.get 0 rfl) 0; have c0_1 := blkC (h5.get 0 rfl) 1; have x0 := blkX (h5.get 0 rfl); have c1_0 := blkC (h5.get 1 rfl) 0; have c1_1 := blkC (h5.get 1 rfl) 1; have x1 := blkX (h5.get 1 rfl)
  go_wp2_with (fail)
  refine (Bn.call (Bn.push h5 (w5.heap.size) #[.int .i64 (R), .int .i64 (N)] 23 (by simp)) (fun W hW => order_any R N R2 N2 W)).mono ?_
  rintro e w6 ⟨he, h6⟩
  rw [ho.out] at he
  subst he
  clear c0_0 c0_1 x0 c1_0 c1_1 x1
  have c0_0 := blkC (h6.get 0 rfl) 0; have c0_1 := blkC (h6.get 0 rfl) 1; have x0 := blkX (h6.get 0 rfl); have c1_0 := blkC (h6.get 1 rfl) 0; have c1_1 := blkC (h6.get 1 rfl) 1; have x1 := blkX (h6.get 1 rfl); have c2_0 := blkC (h6.get 2 rfl) 0; have c2_1 := blkC (h6.get 2 rfl) 1; have x2 := blkX (h6.get 2 rfl)
  go_wp2_with (fail)
  refine (Bn.call h6 (fun W hW => frm_any (k % 2147483649) 2 (by omega) (by omega) W)).mono ?_
  rintro e w7 ⟨he, h7⟩
  rw [hd.out] at he
  subst he
  clear c0_0 c0_1 x0 c1_0 c1_1 x1 c2_0 c2_1 x2
  have c0_0 := blkC (h7.get 0 rfl) 0; have c0_1 := blkC (h7.get 0 rfl) 1; have x0 := blkX (h7.get 0 rfl); have c1_0 := blkC (h7.get 1 rfl) 0; have c1_1 := blkC (h7.get 1 rfl) 1; have x1 := blkX (h7.get 1 rfl); have c2_0 := blkC (h7.get 2 rfl) 0; have c2_1 := blkC (h7.get 2 rfl) 1; have x2 := blkX (h7.get 2 rfl)
  go_wp2_with (fail)
  refine (Bn.call (Bn.push h7 (w7.heap.size) #[.int .i64 (S), .int .i64 (T)] 23 (by simp)) (fun W hW => num_any S T 2 W)).mono ?_
  rintro e w8 ⟨he, h8⟩
  rw [hz.out] at he
  subst he
  clear c0_0 c0_1 x0 c1_0 c1_1 x1 c2_0 c2_1 x2
  have c0_0 := blkC (h8.get 0 rfl) 0; have c0_1 := blkC (h8.get 0 rfl) 1; have x0 := blkX (h8.get 0 rfl); have c1_0 := blkC (h8.get 1 rfl) 0; have c1_1 := blkC (h8.get 1 rfl) 1; have x1 := blkX (h8.get 1 rfl); have c2_0 := blkC (h8.get 2 rfl) 0; have c2_1 := blkC (h8.get 2 rfl) 1; have x2 := blkX (h8.get 2 rfl); have c3_0 := blkC (h8.get 3 rfl) 0; have c3_1 := blkC (h8.get 3 rfl) 1; have x3 := blkX (h8.get 3 rfl)
  go_wp2_with (fail)
  refine (Bn.call h8 (fun W hW => frm_any 2147483649 2 (by omega) (by omega) W)).mono ?_
  rintro e w9 ⟨he, h9⟩
  rw [hov.out] at he
  subst he
  clear c0_0 c0_1 x0 c1_0 c1_1 x1 c2_0 c2_1 x2 c3_0 c3_1 x3
  have c0_0 := blkC (h9.get 0 rfl) 0; have c0_1 := blkC (h9.get 0 rfl) 1; have x0 := blkX (h9.get 0 rfl); have c1_0 := blkC (h9.get 1 rfl) 0; have c1_1 := blkC (h9.get 1 rfl) 1; have x1 := blkX (h9.get 1 rfl); have c2_0 := blkC (h9.get 2 rfl) 0; have c2_1 := blkC (h9.get 2 rfl) 1; have x2 := blkX (h9.get 2 rfl); have c3_0 := blkC (h9.get 3 rfl) 0; have c3_1 := blkC (h9.get 3 rfl) 1; have x3 := blkX (h9.get 3 rfl)
  go_wp2_with (fail)
  refine (Bn.call (Bn.push h9 (w9.heap.size) #[.int .i64 (0), .int .i64 (0)] 23 (by simp)) (fun W hW => check_any S T 2 W)).mono ?_
  rintro e w10 ⟨he, h10⟩
  rw [hck.out] at he
  subst he
  clear c0_0 c0_1 x0 c1_0 c1_1 x1 c2_0 c2_1 x2 c3_0 c3_1 x3
  have c0_0 := blkC (h10.get 0 rfl) 0; have c0_1 := blkC (h10.get 0 rfl) 1; have x0 := blkX (h10.get 0 rfl); have c1_0 := blkC (h10.get 1 rfl) 0; have c1_1 := blkC (h10.get 1 rfl) 1; have x1 := blkX (h10.get 1 rfl); have c2_0 := blkC (h10.get 2 rfl) 0; have c2_1 := blkC (h10.get 2 rfl) 1; have x2 := blkX (h10.get 2 rfl); have c3_0 := blkC (h10.get 3 rfl) 0; have c3_1 := blkC (h10.get 3 rfl) 1; have x3 := blkX (h10.get 3 rfl); have c4_0 := blkC (h10.get 4 rfl) 0; have c4_1 := blkC (h10.get 4 rfl) 1; have x4 := blkX (h10.get 4 rfl)
  go_wp2_with (fail)
  refine (Bn.call h10 (fun W hW => works_any W hW)).mono ?_
  rintro e w11 ⟨rfl, h11⟩
  clear c0_0 c0_1 x0 c1_0 c1_1 x1 c2_0 c2_1 x2 c3_0 c3_1 x3 c4_0 c4_1 x4
  have c0_0 := blkC (h11.get 0 rfl) 0; have c0_1 := blkC (h11.get 0 rfl) 1; have x0 := blkX (h11.get 0 rfl); have c1_0 := blkC (h11.get 1 rfl) 0; have c1_1 := blkC (h11.get 1 rfl) 1; have x1 := blkX (h11.get 1 rfl); have c2_0 := blkC (h11.get 2 rfl) 0; have c2_1 := blkC (h11.get 2 rfl) 1; have x2 := blkX (h11.get 2 rfl); have c3_0 := blkC (h11.get 3 rfl) 0; have c3_1 := blkC (h11.get 3 rfl) 1; have x3 := blkX (h11.get 3 rfl); have c4_0 := blkC (h11.get 4 rfl) 0; have c4_1 := blkC (h11.get 4 rfl) 1; have x4 := blkX (h11.get 4 rfl)
  go_wp2_with (fail)
  go_ret
  exact ⟨by simp, by have B := h11.bel; repeat (first | exact B | (refine Below.drew ?_) | (refine below_drewN ?_ _) | (refine Below.setCell ?_ (by have := B.size; simp; try omega) _) | (refine Below.alloc ?_ (by have := B.size; simp; try omega) _))⟩
set_option maxHeartbeats 8000000 in
theorem counts_gn2 (a : Int) (al : 0 ≤ a ∧ a ≤ 255) (r1 : Int) (hr1 : 0 ≤ r1 ∧ r1 ≤ 4294967295) (r2 : Int) (hr2 : 0 ≤ r2 ∧ r2 ≤ 4294967295) (d1 : Int) (hd1 : 0 ≤ d1 ∧ d1 ≤ 255) (d2 : Int) (hd2 : 0 ≤ d2 ∧ d2 ≤ 255) (k : Int) (kl : 0 ≤ k ∧ k ≤ 18446744073709551615) (w : World) (hL : Ldr w) (ha : a % 7 = 1) (R N x S T : Int) (N2 y : Int) (x0 : 0 ≤ x) (x1 : x ≤ 2147483648) (hA1 : Hid (mdR r1 = R)) (hA2 : Hid (mdN r1 d1 2 = N)) (hB1 : Hid (mdR r2 = R)) (hB2 : Hid (mdN r2 d2 2 = N2)) (hx : Hid (num R N 2 = (x, 0))) (hc : Hid (frm x 2 = (R, N, 0))) (ho : Hid (ordI R N R N2 = 1)) (hd : Hid (frm (k % 2147483649) 2 = (S, T, 0))) (hz : Hid (num S T 2 = (k % 2147483649, 0))) (hck : Hid (chkE S T 2 = 0)) (hov : Hid (frm 2147483649 2 = (0, 0, 3))) (hy : Hid (num R N2 2 = (y, 0))) (hlt : y < x) (hb : (x == y) = false) (he : (N == N2) = false) : Calls Tryd.prog 7 #[.int .u8 a, .int .u32 r1, .int .u32 r2, .int .u8 d1, .int .u8 d2, .int .u64 k] w fun e w' => e = .returned (.bool true) ∧ Below w.heap.size w w' := by
  have hm0 : 0 ≤ k % 2147483649 := by omega
  have hm1 : k % 2147483649 ≤ 2147483648 := by omega
  obtain ⟨al0, al1⟩ := al
  obtain ⟨kl0, kl1⟩ := kl
  go_enter Tryd.func7, Tryd.ntmps7
  have h0 := Bn.new hL
  go_wp2_with (fail)
  refine (Bn.call h0 (fun W hW => made_any r1 d1 2 hr1 hd1 (by omega) W)).mono ?_
  rintro e w1 ⟨he, h1⟩
  rw [hA1.out, hA2.out] at he
  subst he
  go_wp2_with (fail)
  refine (Bn.call (Bn.push h1 (w1.heap.size) #[.int .i64 (R), .int .i64 (N)] 23 (by simp)) (fun W hW => made_any r2 d2 2 hr2 hd2 (by omega) W)).mono ?_
  rintro e w2 ⟨he, h2⟩
  rw [hB1.out, hB2.out] at he
  subst he
  have c0_0 := blkC (h2.get 0 rfl) 0; have c0_1 := blkC (h2.get 0 rfl) 1; have x0 := blkX (h2.get 0 rfl)
  go_wp2_with (fail)
  refine (Bn.call (Bn.push h2 (w2.heap.size) #[.int .i64 (R), .int .i64 (N2)] 23 (by simp)) (fun W hW => num_any R N 2 W)).mono ?_
  rintro e w3 ⟨he, h3⟩
  rw [hx.out] at he
  subst he
  clear c0_0 c0_1 x0
  have c0_0 := blkC (h3.get 0 rfl) 0; have c0_1 := blkC (h3.get 0 rfl) 1; have x0 := blkX (h3.get 0 rfl); have c1_0 := blkC (h3.get 1 rfl) 0; have c1_1 := blkC (h3.get 1 rfl) 1; have x1 := blkX (h3.get 1 rfl)
  go_wp2_with (fail)
  refine (Bn.call h3 (fun W hW => num_any R N2 2 W)).mono ?_
  rintro e w4 ⟨he, h4⟩
  rw [hy.out] at he
  subst he
  clear c0_0 c0_1 x0 c1_0 c1_1 x1
  have c0_0 := blkC (h4.get 0 rfl) 0; have c0_1 := blkC (h4.get 0 rfl) 1; have x0 := blkX (h4.get 0 rfl); have c1_0 := blkC (h4.get 1 rfl) 0; have c1_1 := blkC (h4.get 1 rfl) 1; have x1 := blkX (h4.get 1 rfl)
  go_wp2_with (fail)
  refine (Bn.call h4 (fun W hW => frm_any x 2 (by omega) (by omega) W)).mono ?_
  rintro e w5 ⟨he, h5⟩
  rw [hc.out] at he
  subst he
  clear c0_0 c0_1 x0 c1_0 c1_1 x1
  have c0_0 := blkC (h5.get 0 rfl) 0; have c0_1 := blkC (h5.get 0 rfl) 1; have x0 := blkX (h5.get 0 rfl); have c1_0 := blkC (h5.get 1 rfl) 0; have c1_1 := blkC (h5.get 1 rfl) 1; have x1 := blkX (h5.get 1 rfl)
  go_wp2_with (fail)
  refine (Bn.call (Bn.push h5 (w5.heap.size) #[.int .i64 (R), .int .i64 (N)] 23 (by simp)) (fun W hW => order_any R N R N2 W)).mono ?_
  rintro e w6 ⟨he, h6⟩
  rw [ho.out] at he
  subst he
  clear c0_0 c0_1 x0 c1_0 c1_1 x1
  have c0_0 := blkC (h6.get 0 rfl) 0; have c0_1 := blkC (h6.get 0 rfl) 1; have x0 := blkX (h6.get 0 rfl); have c1_0 := blkC (h6.get 1 rfl) 0; have c1_1 := blkC (h6.get 1 rfl) 1; have x1 := blkX (h6.get 1 rfl); have c2_0 := blkC (h6.get 2 rfl) 0; have c2_1 := blkC (h6.get 2 rfl) 1; have x2 := blkX (h6.get 2 rfl)
  go_wp2_with (fail)
  refine (Bn.call h6 (fun W hW => frm_any (k % 2147483649) 2 (by omega) (by omega) W)).mono ?_
  rintro e w7 ⟨he, h7⟩
  rw [hd.out] at he
  subst he
  clear c0_0 c0_1 x0 c1_0 c1_1 x1 c2_0 c2_1 x2
  have c0_0 := blkC (h7.get 0 rfl) 0; have c0_1 := blkC (h7.get 0 rfl) 1; have x0 := blkX (h7.get 0 rfl); have c1_0 := blkC (h7.get 1 rfl) 0; have c1_1 := blkC (h7.get 1 rfl) 1; have x1 := blkX (h7.get 1 rfl); have c2_0 := blkC (h7.get 2 rfl) 0; have c2_1 := blkC (h7.get 2 rfl) 1; have x2 := blkX (h7.get 2 rfl)
  go_wp2_with (fail)
  refine (Bn.call (Bn.push h7 (w7.heap.size) #[.int .i64 (S), .int .i64 (T)] 23 (by simp)) (fun W hW => num_any S T 2 W)).mono ?_
  rintro e w8 ⟨he, h8⟩
  rw [hz.out] at he
  subst he
  clear c0_0 c0_1 x0 c1_0 c1_1 x1 c2_0 c2_1 x2
  have c0_0 := blkC (h8.get 0 rfl) 0; have c0_1 := blkC (h8.get 0 rfl) 1; have x0 := blkX (h8.get 0 rfl); have c1_0 := blkC (h8.get 1 rfl) 0; have c1_1 := blkC (h8.get 1 rfl) 1; have x1 := blkX (h8.get 1 rfl); have c2_0 := blkC (h8.get 2 rfl) 0; have c2_1 := blkC (h8.get 2 rfl) 1; have x2 := blkX (h8.get 2 rfl); have c3_0 := blkC (h8.get 3 rfl) 0; have c3_1 := blkC (h8.get 3 rfl) 1; have x3 := blkX (h8.get 3 rfl)
  go_wp2_with (fail)
  refine (Bn.call h8 (fun W hW => frm_any 2147483649 2 (by omega) (by omega) W)).mono ?_
  rintro e w9 ⟨he, h9⟩
  rw [hov.out] at he
  subst he
  clear c0_0 c0_1 x0 c1_0 c1_1 x1 c2_0 c2_1 x2 c3_0 c3_1 x3
  have c0_0 := blkC (h9.get 0 rfl) 0; have c0_1 := blkC (h9.get 0 rfl) 1; have x0 := blkX (h9.get 0 rfl); have c1_0 := blkC (h9.get 1 rfl) 0; have c1_1 := blkC (h9.get 1 rfl) 1; have x1 := blkX (h9.get 1 rfl); have c2_0 := blkC (h9.get 2 rfl) 0; have c2_1 := blkC (h9.get 2 rfl) 1; have x2 := blkX (h9.get 2 rfl); have c3_0 := blkC (h9.get 3 rfl) 0; have c3_1 := blkC (h9.get 3 rfl) 1; have x3 := blkX (h9.get 3 rfl)
  go_wp2_with (fail)
  refine (Bn.call (Bn.push h9 (w9.heap.size) #[.int .i64 (0), .int .i64 (0)] 23 (by simp)) (fun W hW => check_any S T 2 W)).mono ?_
  rintro e w10 ⟨he, h10⟩
  rw [hck.out] at he
  subst he
  clear c0_0 c0_1 x0 c1_0 c1_1 x1 c2_0 c2_1 x2 c3_0 c3_1 x3
  have c0_0 := blkC (h10.get 0 rfl) 0; have c0_1 := blkC (h10.get 0 rfl) 1; have x0 := blkX (h10.get 0 rfl); have c1_0 := blkC (h10.get 1 rfl) 0; have c1_1 := blkC (h10.get 1 rfl) 1; have x1 := blkX (h10.get 1 rfl); have c2_0 := blkC (h10.get 2 rfl) 0; have c2_1 := blkC (h10.get 2 rfl) 1; have x2 := blkX (h10.get 2 rfl); have c3_0 := blkC (h10.get 3 rfl) 0; have c3_1 := blkC (h10.get 3 rfl) 1; have x3 := blkX (h10.get 3 rfl); have c4_0 := blkC (h10.get 4 rfl) 0; have c4_1 := blkC (h10.get 4 rfl) 1; have x4 := blkX (h10.get 4 rfl)
  go_wp2_with (fail)
  refine (Bn.call h10 (fun W hW => works_any W hW)).mono ?_
  rintro e w11 ⟨rfl, h11⟩
  clear c0_0 c0_1 x0 c1_0 c1_1 x1 c2_0 c2_1 x2 c3_0 c3_1 x3 c4_0 c4_1 x4
  have c0_0 := blkC (h11.get 0 rfl) 0; have c0_1 := blkC (h11.get 0 rfl) 1; have x0 := blkX (h11.get 0 rfl); have c1_0 := blkC (h11.get 1 rfl) 0; have c1_1 := blkC (h11.get 1 rfl) 1; have x1 := blkX (h11.get 1 rfl); have c2_0 := blkC (h11.get 2 rfl) 0; have c2_1 := blkC (h11.get 2 rfl) 1; have x2 := blkX (h11.get 2 rfl); have c3_0 := blkC (h11.get 3 rfl) 0; have c3_1 := blkC (h11.get 3 rfl) 1; have x3 := blkX (h11.get 3 rfl); have c4_0 := blkC (h11.get 4 rfl) 0; have c4_1 := blkC (h11.get 4 rfl) 1; have x4 := blkX (h11.get 4 rfl)
  go_wp2_with (fail)
  go_ret
  exact ⟨by simp, by have B := h11.bel; repeat (first | exact B | (refine Below.drew ?_) | (refine below_drewN ?_ _) | (refine Below.setCell ?_ (by have := B.size; simp; try omega) _) | (refine Below.alloc ?_ (by have := B.size; simp; try omega) _))⟩
end Go.Proofs.YtflpnokhcaepfaaDoor
