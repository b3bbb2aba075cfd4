/- BallotOrder's walk, where the first two ballots differ. -/
import Derived.Test.YtflpnokhcaepfaaDoorWorks
import Derived.Test.YtflpnokhcaepfaaDoorOrdL
namespace Go.Proofs.YtflpnokhcaepfaaDoor
open Go.RowKit
set_option linter.unusedSimpArgs false
set_option linter.unusedVariables false
set_option linter.unusedSectionVars false
set_option maxRecDepth 10000
set_option maxHeartbeats 8000000 in
theorem order_m0_n (r n : Int) (m : Int) (t u : Int) (w : World) (hL : Ldr w) (hx : Hid (ordI r n r m = -1)) (hxr : Hid (ordI r m r n = 1)) (hrr : Hid (ordI r n r n = 0)) (hy : Hid (ordI r m t u = 0)) (hac : Hid (ordI r n t u = -1)) (hne : (n == m) = false) (hlt : n < m) (M1 M2 o1 o2 o3 : Int) (hmx : Hid (mx [(r, n), (r, m), (t, u)] = (M1, M2))) (ho1 : Hid (ordI M1 M2 r n = o1)) (ho2 : Hid (ordI M1 M2 r m = o2)) (ho3 : Hid (ordI M1 M2 t u = o3)) (p1 : 0 ≤ o1) (p2 : 0 ≤ o2) (p3 : 0 ≤ o3) (hM : (M1 = r ∧ M2 = n) ∨ (M1 = r ∧ M2 = m) ∨ (M1 = t ∧ M2 = u)) : Calls Tryd.prog 11 #[.agg #[.int .i64 r, .int .i64 n], .agg #[.int .i64 r, .int .i64 m], .agg #[.int .i64 t, .int .i64 u]] w fun e w' => e = .returned (.bool true) ∧ Below w.heap.size w w' := by
  go_enter Tryd.func11, Tryd.ntmps11
  have h0 := Bn.new hL
  go_wp2_with (fail)
  refine (Bn.call (Bn.push (Bn.push (Bn.push h0 (w.heap.size) #[.int .i64 (r), .int .i64 (n)] 23 (by simp)) (w.heap.size + 1) #[.int .i64 (r), .int .i64 (m)] 23 (by simp)) (w.heap.size + 1 + 1) #[.int .i64 (t), .int .i64 (u)] 23 (by simp)) (fun W hW => order_any r n r m W)).mono ?_
  rintro e w1 ⟨he, h1⟩
  rw [hx.out] at he
  subst he
  have c0_0 := blkC (h1.get 0 rfl) 0; have c0_1 := blkC (h1.get 0 rfl) 1; have x0 := blkX (h1.get 0 rfl); have c1_0 := blkC (h1.get 1 rfl) 0; have c1_1 := blkC (h1.get 1 rfl) 1; have x1 := blkX (h1.get 1 rfl); have c2_0 := blkC (h1.get 2 rfl) 0; have c2_1 := blkC (h1.get 2 rfl) 1; have x2 := blkX (h1.get 2 rfl)
  go_wp2_with (fail)
  refine (Bn.call h1 (fun W hW => order_any r m t u W)).mono ?_
  rintro e w2 ⟨he, h2⟩
  rw [hy.out] at he
  subst he
  clear c0_0 c0_1 x0 c1_0 c1_1 x1 c2_0 c2_1 x2
  have c0_0 := blkC (h2.get 0 rfl) 0; have c0_1 := blkC (h2.get 0 rfl) 1; have x0 := blkX (h2.get 0 rfl); have c1_0 := blkC (h2.get 1 rfl) 0; have c1_1 := blkC (h2.get 1 rfl) 1; have x1 := blkX (h2.get 1 rfl); have c2_0 := blkC (h2.get 2 rfl) 0; have c2_1 := blkC (h2.get 2 rfl) 1; have x2 := blkX (h2.get 2 rfl)
  go_wp2_with (fail)
  refine (Bn.call h2 (fun W hW => order_any r m r n W)).mono ?_
  rintro e w3 ⟨he, h3⟩
  rw [hxr.out] at he
  subst he
  clear c0_0 c0_1 x0 c1_0 c1_1 x1 c2_0 c2_1 x2
  have c0_0 := blkC (h3.get 0 rfl) 0; have c0_1 := blkC (h3.get 0 rfl) 1; have x0 := blkX (h3.get 0 rfl); have c1_0 := blkC (h3.get 1 rfl) 0; have c1_1 := blkC (h3.get 1 rfl) 1; have x1 := blkX (h3.get 1 rfl); have c2_0 := blkC (h3.get 2 rfl) 0; have c2_1 := blkC (h3.get 2 rfl) 1; have x2 := blkX (h3.get 2 rfl)
  go_wp2_with (fail)
  refine (Bn.call h3 (fun W hW => order_any r n r n W)).mono ?_
  rintro e w4 ⟨he, h4⟩
  rw [hrr.out] at he
  subst he
  clear c0_0 c0_1 x0 c1_0 c1_1 x1 c2_0 c2_1 x2
  have c0_0 := blkC (h4.get 0 rfl) 0; have c0_1 := blkC (h4.get 0 rfl) 1; have x0 := blkX (h4.get 0 rfl); have c1_0 := blkC (h4.get 1 rfl) 0; have c1_1 := blkC (h4.get 1 rfl) 1; have x1 := blkX (h4.get 1 rfl); have c2_0 := blkC (h4.get 2 rfl) 0; have c2_1 := blkC (h4.get 2 rfl) 1; have x2 := blkX (h4.get 2 rfl)
  go_wp2_with (fail)
  refine (Bn.call h4 (fun W hW => order_any r n t u W)).mono ?_
  rintro e w5 ⟨he, h5⟩
  rw [hac.out] at he
  subst he
  clear c0_0 c0_1 x0 c1_0 c1_1 x1 c2_0 c2_1 x2
  have c0_0 := blkC (h5.get 0 rfl) 0; have c0_1 := blkC (h5.get 0 rfl) 1; have x0 := blkX (h5.get 0 rfl); have c1_0 := blkC (h5.get 1 rfl) 0; have c1_1 := blkC (h5.get 1 rfl) 1; have x1 := blkX (h5.get 1 rfl); have c2_0 := blkC (h5.get 2 rfl) 0; have c2_1 := blkC (h5.get 2 rfl) 1; have x2 := blkX (h5.get 2 rfl)
  go_wp2_with (fail)
  refine (max_any _ 3 3 [(r, n), (r, m), (t, u)] _ (bs_three r n r m t u) (by omega)).mono ?_
  rintro e wm ⟨he, bm⟩
  rw [hmx.out] at he
  subst he
  have hm := Bn.keep h5 (((Below.refl _ w5).alloc (Nat.le_refl _) _).trans (bm.mono (by simp)))
  clear c0_0 c0_1 x0 c1_0 c1_1 x1 c2_0 c2_1 x2
  have c0_0 := blkC (hm.get 0 rfl) 0
  have c0_1 := blkC (hm.get 0 rfl) 1
  have c1_0 := blkC (hm.get 1 rfl) 0
  have c1_1 := blkC (hm.get 1 rfl) 1
  have c2_0 := blkC (hm.get 2 rfl) 0
  have c2_1 := blkC (hm.get 2 rfl) 1
  have x0 := blkX (hm.get 0 rfl); have x1 := blkX (hm.get 1 rfl); have x2 := blkX (hm.get 2 rfl)
  obtain ⟨k9, h9⟩ : ∃ h : True, True := ⟨trivial, trivial⟩
  clear k9 h9
  have h6 := hm
  clear hm
  skip
  go_wp2_with (fail)
  refine (Bn.call (Bn.push h6 (wm.heap.size) #[.int .i64 (M1), .int .i64 (M2)] 23 (by simp)) (fun W hW => order_any M1 M2 r n W)).mono ?_
  rintro e w7 ⟨he, h7⟩
  rw [ho1.out] at he
  subst he
  clear c0_0 c0_1 c1_0 c1_1 c2_0 c2_1 x0 x1 x2
  have c0_0 := blkC (h7.get 0 rfl) 0; have c0_1 := blkC (h7.get 0 rfl) 1; have x0 := blkX (h7.get 0 rfl); have c1_0 := blkC (h7.get 1 rfl) 0; have c1_1 := blkC (h7.get 1 rfl) 1; have x1 := blkX (h7.get 1 rfl); have c2_0 := blkC (h7.get 2 rfl) 0; have c2_1 := blkC (h7.get 2 rfl) 1; have x2 := blkX (h7.get 2 rfl); have c3_0 := blkC (h7.get 3 rfl) 0; have c3_1 := blkC (h7.get 3 rfl) 1; have x3 := blkX (h7.get 3 rfl)
  go_wp2_with (fail)
  refine (Bn.call h7 (fun W hW => order_any M1 M2 r m W)).mono ?_
  rintro e w8 ⟨he, h8⟩
  rw [ho2.out] at he
  subst he
  clear c0_0 c0_1 x0 c1_0 c1_1 x1 c2_0 c2_1 x2 c3_0 c3_1 x3
  have c0_0 := blkC (h8.get 0 rfl) 0; have c0_1 := blkC (h8.get 0 rfl) 1; have x0 := blkX (h8.get 0 rfl); have c1_0 := blkC (h8.get 1 rfl) 0; have c1_1 := blkC (h8.get 1 rfl) 1; have x1 := blkX (h8.get 1 rfl); have c2_0 := blkC (h8.get 2 rfl) 0; have c2_1 := blkC (h8.get 2 rfl) 1; have x2 := blkX (h8.get 2 rfl); have c3_0 := blkC (h8.get 3 rfl) 0; have c3_1 := blkC (h8.get 3 rfl) 1; have x3 := blkX (h8.get 3 rfl)
  go_wp2_with (fail)
  refine (Bn.call h8 (fun W hW => order_any M1 M2 t u W)).mono ?_
  rintro e w9 ⟨he, h9⟩
  rw [ho3.out] at he
  subst he
  clear c0_0 c0_1 x0 c1_0 c1_1 x1 c2_0 c2_1 x2 c3_0 c3_1 x3
  have c0_0 := blkC (h9.get 0 rfl) 0; have c0_1 := blkC (h9.get 0 rfl) 1; have x0 := blkX (h9.get 0 rfl); have c1_0 := blkC (h9.get 1 rfl) 0; have c1_1 := blkC (h9.get 1 rfl) 1; have x1 := blkX (h9.get 1 rfl); have c2_0 := blkC (h9.get 2 rfl) 0; have c2_1 := blkC (h9.get 2 rfl) 1; have x2 := blkX (h9.get 2 rfl); have c3_0 := blkC (h9.get 3 rfl) 0; have c3_1 := blkC (h9.get 3 rfl) 1; have x3 := blkX (h9.get 3 rfl)
  go_wp2_with (fail)
  all_goals first
    | (exfalso; omega)
    | (refine (Bn.call h9 (fun W hW => works_any W hW)).mono ?_; rintro e w9 ⟨rfl, h9⟩; go_wp2_with (fail); go_ret; exact ⟨rfl, h9.bel⟩)
set_option maxHeartbeats 8000000 in
theorem order_mm_n (r n : Int) (m : Int) (t u : Int) (w : World) (hL : Ldr w) (hx : Hid (ordI r n r m = -1)) (hxr : Hid (ordI r m r n = 1)) (hrr : Hid (ordI r n r n = 0)) (hy : Hid (ordI r m t u = -1)) (hac : Hid (ordI r n t u = -1)) (hne : (n == m) = false) (hlt : n < m) (M1 M2 o1 o2 o3 : Int) (hmx : Hid (mx [(r, n), (r, m), (t, u)] = (M1, M2))) (ho1 : Hid (ordI M1 M2 r n = o1)) (ho2 : Hid (ordI M1 M2 r m = o2)) (ho3 : Hid (ordI M1 M2 t u = o3)) (p1 : 0 ≤ o1) (p2 : 0 ≤ o2) (p3 : 0 ≤ o3) (hM : (M1 = r ∧ M2 = n) ∨ (M1 = r ∧ M2 = m) ∨ (M1 = t ∧ M2 = u)) : Calls Tryd.prog 11 #[.agg #[.int .i64 r, .int .i64 n], .agg #[.int .i64 r, .int .i64 m], .agg #[.int .i64 t, .int .i64 u]] w fun e w' => e = .returned (.bool true) ∧ Below w.heap.size w w' := by
  go_enter Tryd.func11, Tryd.ntmps11
  have h0 := Bn.new hL
  go_wp2_with (fail)
  refine (Bn.call (Bn.push (Bn.push (Bn.push h0 (w.heap.size) #[.int .i64 (r), .int .i64 (n)] 23 (by simp)) (w.heap.size + 1) #[.int .i64 (r), .int .i64 (m)] 23 (by simp)) (w.heap.size + 1 + 1) #[.int .i64 (t), .int .i64 (u)] 23 (by simp)) (fun W hW => order_any r n r m W)).mono ?_
  rintro e w1 ⟨he, h1⟩
  rw [hx.out] at he
  subst he
  have c0_0 := blkC (h1.get 0 rfl) 0; have c0_1 := blkC (h1.get 0 rfl) 1; have x0 := blkX (h1.get 0 rfl); have c1_0 := blkC (h1.get 1 rfl) 0; have c1_1 := blkC (h1.get 1 rfl) 1; have x1 := blkX (h1.get 1 rfl); have c2_0 := blkC (h1.get 2 rfl) 0; have c2_1 := blkC (h1.get 2 rfl) 1; have x2 := blkX (h1.get 2 rfl)
  go_wp2_with (fail)
  refine (Bn.call h1 (fun W hW => order_any r m t u W)).mono ?_
  rintro e w2 ⟨he, h2⟩
  rw [hy.out] at he
  subst he
  clear c0_0 c0_1 x0 c1_0 c1_1 x1 c2_0 c2_1 x2
  have c0_0 := blkC (h2.get 0 rfl) 0; have c0_1 := blkC (h2.get 0 rfl) 1; have x0 := blkX (h2.get 0 rfl); have c1_0 := blkC (h2.get 1 rfl) 0; have c1_1 := blkC (h2.get 1 rfl) 1; have x1 := blkX (h2.get 1 rfl); have c2_0 := blkC (h2.get 2 rfl) 0; have c2_1 := blkC (h2.get 2 rfl) 1; have x2 := blkX (h2.get 2 rfl)
  go_wp2_with (fail)
  refine (Bn.call h2 (fun W hW => order_any r m r n W)).mono ?_
  rintro e w3 ⟨he, h3⟩
  rw [hxr.out] at he
  subst he
  clear c0_0 c0_1 x0 c1_0 c1_1 x1 c2_0 c2_1 x2
  have c0_0 := blkC (h3.get 0 rfl) 0; have c0_1 := blkC (h3.get 0 rfl) 1; have x0 := blkX (h3.get 0 rfl); have c1_0 := blkC (h3.get 1 rfl) 0; have c1_1 := blkC (h3.get 1 rfl) 1; have x1 := blkX (h3.get 1 rfl); have c2_0 := blkC (h3.get 2 rfl) 0; have c2_1 := blkC (h3.get 2 rfl) 1; have x2 := blkX (h3.get 2 rfl)
  go_wp2_with (fail)
  refine (Bn.call h3 (fun W hW => order_any r n r n W)).mono ?_
  rintro e w4 ⟨he, h4⟩
  rw [hrr.out] at he
  subst he
  clear c0_0 c0_1 x0 c1_0 c1_1 x1 c2_0 c2_1 x2
  have c0_0 := blkC (h4.get 0 rfl) 0; have c0_1 := blkC (h4.get 0 rfl) 1; have x0 := blkX (h4.get 0 rfl); have c1_0 := blkC (h4.get 1 rfl) 0; have c1_1 := blkC (h4.get 1 rfl) 1; have x1 := blkX (h4.get 1 rfl); have c2_0 := blkC (h4.get 2 rfl) 0; have c2_1 := blkC (h4.get 2 rfl) 1; have x2 := blkX (h4.get 2 rfl)
  go_wp2_with (fail)
  refine (Bn.call h4 (fun W hW => order_any r n t u W)).mono ?_
  rintro e w5 ⟨he, h5⟩
  rw [hac.out] at he
  subst he
  clear c0_0 c0_1 x0 c1_0 c1_1 x1 c2_0 c2_1 x2
  have c0_0 := blkC (h5.get 0 rfl) 0; have c0_1 := blkC (h5.get 0 rfl) 1; have x0 := blkX (h5.get 0 rfl); have c1_0 := blkC (h5.get 1 rfl) 0; have c1_1 := blkC (h5.get 1 rfl) 1; have x1 := blkX (h5.get 1 rfl); have c2_0 := blkC (h5.get 2 rfl) 0; have c2_1 := blkC (h5.get 2 rfl) 1; have x2 := blkX (h5.get 2 rfl)
  go_wp2_with (fail)
  refine (max_any _ 3 3 [(r, n), (r, m), (t, u)] _ (bs_three r n r m t u) (by omega)).mono ?_
  rintro e wm ⟨he, bm⟩
  rw [hmx.out] at he
  subst he
  have hm := Bn.keep h5 (((Below.refl _ w5).alloc (Nat.le_refl _) _).trans (bm.mono (by simp)))
  clear c0_0 c0_1 x0 c1_0 c1_1 x1 c2_0 c2_1 x2
  have c0_0 := blkC (hm.get 0 rfl) 0
  have c0_1 := blkC (hm.get 0 rfl) 1
  have c1_0 := blkC (hm.get 1 rfl) 0
  have c1_1 := blkC (hm.get 1 rfl) 1
  have c2_0 := blkC (hm.get 2 rfl) 0
  have c2_1 := blkC (hm.get 2 rfl) 1
  have x0 := blkX (hm.get 0 rfl); have x1 := blkX (hm.get 1 rfl); have x2 := blkX (hm.get 2 rfl)
  obtain ⟨k9, h9⟩ : ∃ h : True, True := ⟨trivial, trivial⟩
  clear k9 h9
  have h6 := hm
  clear hm
  skip
  go_wp2_with (fail)
  refine (Bn.call (Bn.push h6 (wm.heap.size) #[.int .i64 (M1), .int .i64 (M2)] 23 (by simp)) (fun W hW => order_any M1 M2 r n W)).mono ?_
  rintro e w7 ⟨he, h7⟩
  rw [ho1.out] at he
  subst he
  clear c0_0 c0_1 c1_0 c1_1 c2_0 c2_1 x0 x1 x2
  have c0_0 := blkC (h7.get 0 rfl) 0; have c0_1 := blkC (h7.get 0 rfl) 1; have x0 := blkX (h7.get 0 rfl); have c1_0 := blkC (h7.get 1 rfl) 0; have c1_1 := blkC (h7.get 1 rfl) 1; have x1 := blkX (h7.get 1 rfl); have c2_0 := blkC (h7.get 2 rfl) 0; have c2_1 := blkC (h7.get 2 rfl) 1; have x2 := blkX (h7.get 2 rfl); have c3_0 := blkC (h7.get 3 rfl) 0; have c3_1 := blkC (h7.get 3 rfl) 1; have x3 := blkX (h7.get 3 rfl)
  go_wp2_with (fail)
  refine (Bn.call h7 (fun W hW => order_any M1 M2 r m W)).mono ?_
  rintro e w8 ⟨he, h8⟩
  rw [ho2.out] at he
  subst he
  clear c0_0 c0_1 x0 c1_0 c1_1 x1 c2_0 c2_1 x2 c3_0 c3_1 x3
  have c0_0 := blkC (h8.get 0 rfl) 0; have c0_1 := blkC (h8.get 0 rfl) 1; have x0 := blkX (h8.get 0 rfl); have c1_0 := blkC (h8.get 1 rfl) 0; have c1_1 := blkC (h8.get 1 rfl) 1; have x1 := blkX (h8.get 1 rfl); have c2_0 := blkC (h8.get 2 rfl) 0; have c2_1 := blkC (h8.get 2 rfl) 1; have x2 := blkX (h8.get 2 rfl); have c3_0 := blkC (h8.get 3 rfl) 0; have c3_1 := blkC (h8.get 3 rfl) 1; have x3 := blkX (h8.get 3 rfl)
  go_wp2_with (fail)
  refine (Bn.call h8 (fun W hW => order_any M1 M2 t u W)).mono ?_
  rintro e w9 ⟨he, h9⟩
  rw [ho3.out] at he
  subst he
  clear c0_0 c0_1 x0 c1_0 c1_1 x1 c2_0 c2_1 x2 c3_0 c3_1 x3
  have c0_0 := blkC (h9.get 0 rfl) 0; have c0_1 := blkC (h9.get 0 rfl) 1; have x0 := blkX (h9.get 0 rfl); have c1_0 := blkC (h9.get 1 rfl) 0; have c1_1 := blkC (h9.get 1 rfl) 1; have x1 := blkX (h9.get 1 rfl); have c2_0 := blkC (h9.get 2 rfl) 0; have c2_1 := blkC (h9.get 2 rfl) 1; have x2 := blkX (h9.get 2 rfl); have c3_0 := blkC (h9.get 3 rfl) 0; have c3_1 := blkC (h9.get 3 rfl) 1; have x3 := blkX (h9.get 3 rfl)
  go_wp2_with (fail)
  all_goals first
    | (exfalso; omega)
    | (refine (Bn.call h9 (fun W hW => works_any W hW)).mono ?_; rintro e w9 ⟨rfl, h9⟩; go_wp2_with (fail); go_ret; exact ⟨rfl, h9.bel⟩)
set_option maxHeartbeats 8000000 in
theorem order_mp_n (r n : Int) (m : Int) (t u : Int) (w : World) (hL : Ldr w) (hx : Hid (ordI r n r m = -1)) (hxr : Hid (ordI r m r n = 1)) (hrr : Hid (ordI r n r n = 0)) (hy : Hid (ordI r m t u = 1)) (hne : (n == m) = false) (hlt : n < m) (M1 M2 o1 o2 o3 : Int) (hmx : Hid (mx [(r, n), (r, m), (t, u)] = (M1, M2))) (ho1 : Hid (ordI M1 M2 r n = o1)) (ho2 : Hid (ordI M1 M2 r m = o2)) (ho3 : Hid (ordI M1 M2 t u = o3)) (p1 : 0 ≤ o1) (p2 : 0 ≤ o2) (p3 : 0 ≤ o3) (hM : (M1 = r ∧ M2 = n) ∨ (M1 = r ∧ M2 = m) ∨ (M1 = t ∧ M2 = u)) : Calls Tryd.prog 11 #[.agg #[.int .i64 r, .int .i64 n], .agg #[.int .i64 r, .int .i64 m], .agg #[.int .i64 t, .int .i64 u]] w fun e w' => e = .returned (.bool true) ∧ Below w.heap.size w w' := by
  go_enter Tryd.func11, Tryd.ntmps11
  have h0 := Bn.new hL
  go_wp2_with (fail)
  refine (Bn.call (Bn.push (Bn.push (Bn.push h0 (w.heap.size) #[.int .i64 (r), .int .i64 (n)] 23 (by simp)) (w.heap.size + 1) #[.int .i64 (r), .int .i64 (m)] 23 (by simp)) (w.heap.size + 1 + 1) #[.int .i64 (t), .int .i64 (u)] 23 (by simp)) (fun W hW => order_any r n r m W)).mono ?_
  rintro e w1 ⟨he, h1⟩
  rw [hx.out] at he
  subst he
  have c0_0 := blkC (h1.get 0 rfl) 0; have c0_1 := blkC (h1.get 0 rfl) 1; have x0 := blkX (h1.get 0 rfl); have c1_0 := blkC (h1.get 1 rfl) 0; have c1_1 := blkC (h1.get 1 rfl) 1; have x1 := blkX (h1.get 1 rfl); have c2_0 := blkC (h1.get 2 rfl) 0; have c2_1 := blkC (h1.get 2 rfl) 1; have x2 := blkX (h1.get 2 rfl)
  go_wp2_with (fail)
  refine (Bn.call h1 (fun W hW => order_any r m t u W)).mono ?_
  rintro e w2 ⟨he, h2⟩
  rw [hy.out] at he
  subst he
  clear c0_0 c0_1 x0 c1_0 c1_1 x1 c2_0 c2_1 x2
  have c0_0 := blkC (h2.get 0 rfl) 0; have c0_1 := blkC (h2.get 0 rfl) 1; have x0 := blkX (h2.get 0 rfl); have c1_0 := blkC (h2.get 1 rfl) 0; have c1_1 := blkC (h2.get 1 rfl) 1; have x1 := blkX (h2.get 1 rfl); have c2_0 := blkC (h2.get 2 rfl) 0; have c2_1 := blkC (h2.get 2 rfl) 1; have x2 := blkX (h2.get 2 rfl)
  go_wp2_with (fail)
  refine (Bn.call h2 (fun W hW => order_any r m r n W)).mono ?_
  rintro e w3 ⟨he, h3⟩
  rw [hxr.out] at he
  subst he
  clear c0_0 c0_1 x0 c1_0 c1_1 x1 c2_0 c2_1 x2
  have c0_0 := blkC (h3.get 0 rfl) 0; have c0_1 := blkC (h3.get 0 rfl) 1; have x0 := blkX (h3.get 0 rfl); have c1_0 := blkC (h3.get 1 rfl) 0; have c1_1 := blkC (h3.get 1 rfl) 1; have x1 := blkX (h3.get 1 rfl); have c2_0 := blkC (h3.get 2 rfl) 0; have c2_1 := blkC (h3.get 2 rfl) 1; have x2 := blkX (h3.get 2 rfl)
  go_wp2_with (fail)
  refine (Bn.call h3 (fun W hW => order_any r n r n W)).mono ?_
  rintro e w4 ⟨he, h4⟩
  rw [hrr.out] at he
  subst he
  clear c0_0 c0_1 x0 c1_0 c1_1 x1 c2_0 c2_1 x2
  have c0_0 := blkC (h4.get 0 rfl) 0; have c0_1 := blkC (h4.get 0 rfl) 1; have x0 := blkX (h4.get 0 rfl); have c1_0 := blkC (h4.get 1 rfl) 0; have c1_1 := blkC (h4.get 1 rfl) 1; have x1 := blkX (h4.get 1 rfl); have c2_0 := blkC (h4.get 2 rfl) 0; have c2_1 := blkC (h4.get 2 rfl) 1; have x2 := blkX (h4.get 2 rfl)
  go_wp2_with (fail)
  refine (max_any _ 3 3 [(r, n), (r, m), (t, u)] _ (bs_three r n r m t u) (by omega)).mono ?_
  rintro e wm ⟨he, bm⟩
  rw [hmx.out] at he
  subst he
  have hm := Bn.keep h4 (((Below.refl _ w4).alloc (Nat.le_refl _) _).trans (bm.mono (by simp)))
  clear c0_0 c0_1 x0 c1_0 c1_1 x1 c2_0 c2_1 x2
  have c0_0 := blkC (hm.get 0 rfl) 0
  have c0_1 := blkC (hm.get 0 rfl) 1
  have c1_0 := blkC (hm.get 1 rfl) 0
  have c1_1 := blkC (hm.get 1 rfl) 1
  have c2_0 := blkC (hm.get 2 rfl) 0
  have c2_1 := blkC (hm.get 2 rfl) 1
  have x0 := blkX (hm.get 0 rfl); have x1 := blkX (hm.get 1 rfl); have x2 := blkX (hm.get 2 rfl)
  obtain ⟨k9, h9⟩ : ∃ h : True, True := ⟨trivial, trivial⟩
  clear k9 h9
  have h5 := hm
  clear hm
  skip
  go_wp2_with (fail)
  refine (Bn.call (Bn.push h5 (wm.heap.size) #[.int .i64 (M1), .int .i64 (M2)] 23 (by simp)) (fun W hW => order_any M1 M2 r n W)).mono ?_
  rintro e w6 ⟨he, h6⟩
  rw [ho1.out] at he
  subst he
  clear c0_0 c0_1 c1_0 c1_1 c2_0 c2_1 x0 x1 x2
  have c0_0 := blkC (h6.get 0 rfl) 0; have c0_1 := blkC (h6.get 0 rfl) 1; have x0 := blkX (h6.get 0 rfl); have c1_0 := blkC (h6.get 1 rfl) 0; have c1_1 := blkC (h6.get 1 rfl) 1; have x1 := blkX (h6.get 1 rfl); have c2_0 := blkC (h6.get 2 rfl) 0; have c2_1 := blkC (h6.get 2 rfl) 1; have x2 := blkX (h6.get 2 rfl); have c3_0 := blkC (h6.get 3 rfl) 0; have c3_1 := blkC (h6.get 3 rfl) 1; have x3 := blkX (h6.get 3 rfl)
  go_wp2_with (fail)
  refine (Bn.call h6 (fun W hW => order_any M1 M2 r m W)).mono ?_
  rintro e w7 ⟨he, h7⟩
  rw [ho2.out] at he
  subst he
  clear c0_0 c0_1 x0 c1_0 c1_1 x1 c2_0 c2_1 x2 c3_0 c3_1 x3
  have c0_0 := blkC (h7.get 0 rfl) 0; have c0_1 := blkC (h7.get 0 rfl) 1; have x0 := blkX (h7.get 0 rfl); have c1_0 := blkC (h7.get 1 rfl) 0; have c1_1 := blkC (h7.get 1 rfl) 1; have x1 := blkX (h7.get 1 rfl); have c2_0 := blkC (h7.get 2 rfl) 0; have c2_1 := blkC (h7.get 2 rfl) 1; have x2 := blkX (h7.get 2 rfl); have c3_0 := blkC (h7.get 3 rfl) 0; have c3_1 := blkC (h7.get 3 rfl) 1; have x3 := blkX (h7.get 3 rfl)
  go_wp2_with (fail)
  refine (Bn.call h7 (fun W hW => order_any M1 M2 t u W)).mono ?_
  rintro e w8 ⟨he, h8⟩
  rw [ho3.out] at he
  subst he
  clear c0_0 c0_1 x0 c1_0 c1_1 x1 c2_0 c2_1 x2 c3_0 c3_1 x3
  have c0_0 := blkC (h8.get 0 rfl) 0; have c0_1 := blkC (h8.get 0 rfl) 1; have x0 := blkX (h8.get 0 rfl); have c1_0 := blkC (h8.get 1 rfl) 0; have c1_1 := blkC (h8.get 1 rfl) 1; have x1 := blkX (h8.get 1 rfl); have c2_0 := blkC (h8.get 2 rfl) 0; have c2_1 := blkC (h8.get 2 rfl) 1; have x2 := blkX (h8.get 2 rfl); have c3_0 := blkC (h8.get 3 rfl) 0; have c3_1 := blkC (h8.get 3 rfl) 1; have x3 := blkX (h8.get 3 rfl)
  go_wp2_with (fail)
  all_goals first
    | (exfalso; omega)
    | (refine (Bn.call h8 (fun W hW => works_any W hW)).mono ?_; rintro e w9 ⟨rfl, h9⟩; go_wp2_with (fail); go_ret; exact ⟨rfl, h9.bel⟩)
set_option maxHeartbeats 8000000 in
theorem order_p_n (r n : Int) (m : Int) (t u : Int) (w : World) (hL : Ldr w) (hx : Hid (ordI r n r m = 1)) (hxr : Hid (ordI r m r n = -1)) (hrr : Hid (ordI r n r n = 0)) (y : Int) (hy0 : -1 ≤ y) (hy1 : y ≤ 1) (hy : Hid (ordI r m t u = y)) (hne : (n == m) = false) (hlt : m < n) (M1 M2 o1 o2 o3 : Int) (hmx : Hid (mx [(r, n), (r, m), (t, u)] = (M1, M2))) (ho1 : Hid (ordI M1 M2 r n = o1)) (ho2 : Hid (ordI M1 M2 r m = o2)) (ho3 : Hid (ordI M1 M2 t u = o3)) (p1 : 0 ≤ o1) (p2 : 0 ≤ o2) (p3 : 0 ≤ o3) (hM : (M1 = r ∧ M2 = n) ∨ (M1 = r ∧ M2 = m) ∨ (M1 = t ∧ M2 = u)) : Calls Tryd.prog 11 #[.agg #[.int .i64 r, .int .i64 n], .agg #[.int .i64 r, .int .i64 m], .agg #[.int .i64 t, .int .i64 u]] w fun e w' => e = .returned (.bool true) ∧ Below w.heap.size w w' := by
  go_enter Tryd.func11, Tryd.ntmps11
  have h0 := Bn.new hL
  go_wp2_with (fail)
  refine (Bn.call (Bn.push (Bn.push (Bn.push h0 (w.heap.size) #[.int .i64 (r), .int .i64 (n)] 23 (by simp)) (w.heap.size + 1) #[.int .i64 (r), .int .i64 (m)] 23 (by simp)) (w.heap.size + 1 + 1) #[.int .i64 (t), .int .i64 (u)] 23 (by simp)) (fun W hW => order_any r n r m W)).mono ?_
  rintro e w1 ⟨he, h1⟩
  rw [hx.out] at he
  subst he
  have c0_0 := blkC (h1.get 0 rfl) 0; have c0_1 := blkC (h1.get 0 rfl) 1; have x0 := blkX (h1.get 0 rfl); have c1_0 := blkC (h1.get 1 rfl) 0; have c1_1 := blkC (h1.get 1 rfl) 1; have x1 := blkX (h1.get 1 rfl); have c2_0 := blkC (h1.get 2 rfl) 0; have c2_1 := blkC (h1.get 2 rfl) 1; have x2 := blkX (h1.get 2 rfl)
  go_wp2_with (fail)
  refine (Bn.call h1 (fun W hW => order_any r m t u W)).mono ?_
  rintro e w2 ⟨he, h2⟩
  rw [hy.out] at he
  subst he
  clear c0_0 c0_1 x0 c1_0 c1_1 x1 c2_0 c2_1 x2
  have c0_0 := blkC (h2.get 0 rfl) 0; have c0_1 := blkC (h2.get 0 rfl) 1; have x0 := blkX (h2.get 0 rfl); have c1_0 := blkC (h2.get 1 rfl) 0; have c1_1 := blkC (h2.get 1 rfl) 1; have x1 := blkX (h2.get 1 rfl); have c2_0 := blkC (h2.get 2 rfl) 0; have c2_1 := blkC (h2.get 2 rfl) 1; have x2 := blkX (h2.get 2 rfl)
  go_wp2_with (fail)
  refine (Bn.call h2 (fun W hW => order_any r m r n W)).mono ?_
  rintro e w3 ⟨he, h3⟩
  rw [hxr.out] at he
  subst he
  clear c0_0 c0_1 x0 c1_0 c1_1 x1 c2_0 c2_1 x2
  have c0_0 := blkC (h3.get 0 rfl) 0; have c0_1 := blkC (h3.get 0 rfl) 1; have x0 := blkX (h3.get 0 rfl); have c1_0 := blkC (h3.get 1 rfl) 0; have c1_1 := blkC (h3.get 1 rfl) 1; have x1 := blkX (h3.get 1 rfl); have c2_0 := blkC (h3.get 2 rfl) 0; have c2_1 := blkC (h3.get 2 rfl) 1; have x2 := blkX (h3.get 2 rfl)
  go_wp2_with (fail)
  refine (Bn.call h3 (fun W hW => order_any r n r n W)).mono ?_
  rintro e w4 ⟨he, h4⟩
  rw [hrr.out] at he
  subst he
  clear c0_0 c0_1 x0 c1_0 c1_1 x1 c2_0 c2_1 x2
  have c0_0 := blkC (h4.get 0 rfl) 0; have c0_1 := blkC (h4.get 0 rfl) 1; have x0 := blkX (h4.get 0 rfl); have c1_0 := blkC (h4.get 1 rfl) 0; have c1_1 := blkC (h4.get 1 rfl) 1; have x1 := blkX (h4.get 1 rfl); have c2_0 := blkC (h4.get 2 rfl) 0; have c2_1 := blkC (h4.get 2 rfl) 1; have x2 := blkX (h4.get 2 rfl)
  go_wp2_with (fail)
  refine (max_any _ 3 3 [(r, n), (r, m), (t, u)] _ (bs_three r n r m t u) (by omega)).mono ?_
  rintro e wm ⟨he, bm⟩
  rw [hmx.out] at he
  subst he
  have hm := Bn.keep h4 (((Below.refl _ w4).alloc (Nat.le_refl _) _).trans (bm.mono (by simp)))
  clear c0_0 c0_1 x0 c1_0 c1_1 x1 c2_0 c2_1 x2
  have c0_0 := blkC (hm.get 0 rfl) 0
  have c0_1 := blkC (hm.get 0 rfl) 1
  have c1_0 := blkC (hm.get 1 rfl) 0
  have c1_1 := blkC (hm.get 1 rfl) 1
  have c2_0 := blkC (hm.get 2 rfl) 0
  have c2_1 := blkC (hm.get 2 rfl) 1
  have x0 := blkX (hm.get 0 rfl); have x1 := blkX (hm.get 1 rfl); have x2 := blkX (hm.get 2 rfl)
  obtain ⟨k9, h9⟩ : ∃ h : True, True := ⟨trivial, trivial⟩
  clear k9 h9
  have h5 := hm
  clear hm
  skip
  go_wp2_with (fail)
  refine (Bn.call (Bn.push h5 (wm.heap.size) #[.int .i64 (M1), .int .i64 (M2)] 23 (by simp)) (fun W hW => order_any M1 M2 r n W)).mono ?_
  rintro e w6 ⟨he, h6⟩
  rw [ho1.out] at he
  subst he
  clear c0_0 c0_1 c1_0 c1_1 c2_0 c2_1 x0 x1 x2
  have c0_0 := blkC (h6.get 0 rfl) 0; have c0_1 := blkC (h6.get 0 rfl) 1; have x0 := blkX (h6.get 0 rfl); have c1_0 := blkC (h6.get 1 rfl) 0; have c1_1 := blkC (h6.get 1 rfl) 1; have x1 := blkX (h6.get 1 rfl); have c2_0 := blkC (h6.get 2 rfl) 0; have c2_1 := blkC (h6.get 2 rfl) 1; have x2 := blkX (h6.get 2 rfl); have c3_0 := blkC (h6.get 3 rfl) 0; have c3_1 := blkC (h6.get 3 rfl) 1; have x3 := blkX (h6.get 3 rfl)
  go_wp2_with (fail)
  refine (Bn.call h6 (fun W hW => order_any M1 M2 r m W)).mono ?_
  rintro e w7 ⟨he, h7⟩
  rw [ho2.out] at he
  subst he
  clear c0_0 c0_1 x0 c1_0 c1_1 x1 c2_0 c2_1 x2 c3_0 c3_1 x3
  have c0_0 := blkC (h7.get 0 rfl) 0; have c0_1 := blkC (h7.get 0 rfl) 1; have x0 := blkX (h7.get 0 rfl); have c1_0 := blkC (h7.get 1 rfl) 0; have c1_1 := blkC (h7.get 1 rfl) 1; have x1 := blkX (h7.get 1 rfl); have c2_0 := blkC (h7.get 2 rfl) 0; have c2_1 := blkC (h7.get 2 rfl) 1; have x2 := blkX (h7.get 2 rfl); have c3_0 := blkC (h7.get 3 rfl) 0; have c3_1 := blkC (h7.get 3 rfl) 1; have x3 := blkX (h7.get 3 rfl)
  go_wp2_with (fail)
  refine (Bn.call h7 (fun W hW => order_any M1 M2 t u W)).mono ?_
  rintro e w8 ⟨he, h8⟩
  rw [ho3.out] at he
  subst he
  clear c0_0 c0_1 x0 c1_0 c1_1 x1 c2_0 c2_1 x2 c3_0 c3_1 x3
  have c0_0 := blkC (h8.get 0 rfl) 0; have c0_1 := blkC (h8.get 0 rfl) 1; have x0 := blkX (h8.get 0 rfl); have c1_0 := blkC (h8.get 1 rfl) 0; have c1_1 := blkC (h8.get 1 rfl) 1; have x1 := blkX (h8.get 1 rfl); have c2_0 := blkC (h8.get 2 rfl) 0; have c2_1 := blkC (h8.get 2 rfl) 1; have x2 := blkX (h8.get 2 rfl); have c3_0 := blkC (h8.get 3 rfl) 0; have c3_1 := blkC (h8.get 3 rfl) 1; have x3 := blkX (h8.get 3 rfl)
  go_wp2_with (fail)
  all_goals first
    | (exfalso; omega)
    | (refine (Bn.call h8 (fun W hW => works_any W hW)).mono ?_; rintro e w9 ⟨rfl, h9⟩; go_wp2_with (fail); go_ret; exact ⟨rfl, h9.bel⟩)
end Go.Proofs.YtflpnokhcaepfaaDoor
