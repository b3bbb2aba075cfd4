/- BallotBack's walk. -/
import Derived.Test.YtflpnokhcaepfaaDoorWorks
namespace Go.Proofs.YtflpnokhcaepfaaDoor
open Go.RowKit
set_option linter.unusedSimpArgs false
set_option linter.unusedVariables false
set_option linter.unusedSectionVars false
set_option maxRecDepth 10000
set_option maxHeartbeats 8000000 in
theorem back_00 (r n : Int) (rl : -9223372036854775808 ≤ r ∧ r ≤ 9223372036854775807) (nl : -9223372036854775808 ≤ n ∧ n ≤ 9223372036854775807) (s : ByteArray) (hs : s.size ≤ 140737488355328) (w : World) (hL : Ldr w) (hl : ¬ 100 < s.size) (hc : Hid (chkE r n 7 = 2)) (ht : Hid (txtS r n = ⟨#[]⟩)) (hp : Hid (prs s.data.toList = (0, 0, 10))) : Calls Tryd.prog 8 #[.agg #[.int .i64 r, .int .i64 n], .string s] w fun e w' => e = .returned (.bool true) ∧ Below w.heap.size w w' := by
  go_enter Tryd.func8, Tryd.ntmps8
  have h0 := Bn.new hL
  go_wp2_with (fail)
  refine (Bn.call (Bn.push h0 (w.heap.size) #[.int .i64 (r), .int .i64 (n)] 23 (by simp)) (fun W hW => text_any r n W hW)).mono ?_
  rintro e w1 ⟨he, h1⟩
  rw [ht.out, hc.out] at he
  subst he
  have c0_0 := blkC (h1.get 0 rfl) 0; have c0_1 := blkC (h1.get 0 rfl) 1; have x0 := blkX (h1.get 0 rfl)
  go_wp2_with (fail)
  refine (Bn.call h1 (fun W hW => check_any r n 7 W)).mono ?_
  rintro e w2 ⟨he, h2⟩
  rw [hc.out] at he
  subst he
  clear c0_0 c0_1 x0
  have c0_0 := blkC (h2.get 0 rfl) 0; have c0_1 := blkC (h2.get 0 rfl) 1; have x0 := blkX (h2.get 0 rfl)
  go_wp2_with (fail)
  refine (Bn.call h2 (fun W hW => parse_any s hs W hW)).mono ?_
  rintro e w3 ⟨he, h3⟩
  rw [hp.out] at he
  subst he
  clear c0_0 c0_1 x0
  have c0_0 := blkC (h3.get 0 rfl) 0; have c0_1 := blkC (h3.get 0 rfl) 1; have x0 := blkX (h3.get 0 rfl)
  go_wp2_with (fail)
  refine (Bn.call (Bn.push h3 (w3.heap.size) #[.int .i64 (0), .int .i64 (0)] 23 (by simp)) (fun W hW => works_any W hW)).mono ?_
  rintro e w4 ⟨rfl, h4⟩
  clear c0_0 c0_1 x0
  have c0_0 := blkC (h4.get 0 rfl) 0; have c0_1 := blkC (h4.get 0 rfl) 1; have x0 := blkX (h4.get 0 rfl); have c1_0 := blkC (h4.get 1 rfl) 0; have c1_1 := blkC (h4.get 1 rfl) 1; have x1 := blkX (h4.get 1 rfl)
  go_wp2_with (fail)
  go_ret
  exact ⟨by simp, by have B := h4.bel; repeat (first | exact B | (refine Below.drew ?_) | (refine below_drewN ?_ _) | (refine Below.setCell ?_ (by have := B.size; simp; try omega) _) | (refine Below.alloc ?_ (by have := B.size; simp; try omega) _))⟩
set_option maxHeartbeats 8000000 in
theorem back_01 (r n : Int) (rl : -9223372036854775808 ≤ r ∧ r ≤ 9223372036854775807) (nl : -9223372036854775808 ≤ n ∧ n ≤ 9223372036854775807) (s : ByteArray) (hs : s.size ≤ 140737488355328) (w : World) (hL : Ldr w) (hl : ¬ 100 < s.size) (hc : Hid (chkE r n 7 = 2)) (ht : Hid (txtS r n = ⟨#[]⟩)) (x y : Int) (hp : Hid (prs s.data.toList = (x, y, 0))) (hxt : Hid (txtS x y = s)) (hxc : Hid (chkE x y 7 = 0)) : Calls Tryd.prog 8 #[.agg #[.int .i64 r, .int .i64 n], .string s] w fun e w' => e = .returned (.bool true) ∧ Below w.heap.size w w' := by
  go_enter Tryd.func8, Tryd.ntmps8
  have h0 := Bn.new hL
  go_wp2_with (fail)
  refine (Bn.call (Bn.push h0 (w.heap.size) #[.int .i64 (r), .int .i64 (n)] 23 (by simp)) (fun W hW => text_any r n W hW)).mono ?_
  rintro e w1 ⟨he, h1⟩
  rw [ht.out, hc.out] at he
  subst he
  have c0_0 := blkC (h1.get 0 rfl) 0; have c0_1 := blkC (h1.get 0 rfl) 1; have x0 := blkX (h1.get 0 rfl)
  go_wp2_with (fail)
  refine (Bn.call h1 (fun W hW => check_any r n 7 W)).mono ?_
  rintro e w2 ⟨he, h2⟩
  rw [hc.out] at he
  subst he
  clear c0_0 c0_1 x0
  have c0_0 := blkC (h2.get 0 rfl) 0; have c0_1 := blkC (h2.get 0 rfl) 1; have x0 := blkX (h2.get 0 rfl)
  go_wp2_with (fail)
  refine (Bn.call h2 (fun W hW => parse_any s hs W hW)).mono ?_
  rintro e w3 ⟨he, h3⟩
  rw [hp.out] at he
  subst he
  clear c0_0 c0_1 x0
  have c0_0 := blkC (h3.get 0 rfl) 0; have c0_1 := blkC (h3.get 0 rfl) 1; have x0 := blkX (h3.get 0 rfl)
  go_wp2_with (fail)
  refine (Bn.call (Bn.push h3 (w3.heap.size) #[.int .i64 (x), .int .i64 (y)] 23 (by simp)) (fun W hW => text_any x y W hW)).mono ?_
  rintro e w4 ⟨he, h4⟩
  rw [hxt.out, hxc.out] at he
  subst he
  clear c0_0 c0_1 x0
  have c0_0 := blkC (h4.get 0 rfl) 0; have c0_1 := blkC (h4.get 0 rfl) 1; have x0 := blkX (h4.get 0 rfl); have c1_0 := blkC (h4.get 1 rfl) 0; have c1_1 := blkC (h4.get 1 rfl) 1; have x1 := blkX (h4.get 1 rfl)
  go_wp2_with (fail)
  refine (Bn.call h4 (fun W hW => works_any W hW)).mono ?_
  rintro e w5 ⟨rfl, h5⟩
  clear c0_0 c0_1 x0 c1_0 c1_1 x1
  have c0_0 := blkC (h5.get 0 rfl) 0; have c0_1 := blkC (h5.get 0 rfl) 1; have x0 := blkX (h5.get 0 rfl); have c1_0 := blkC (h5.get 1 rfl) 0; have c1_1 := blkC (h5.get 1 rfl) 1; have x1 := blkX (h5.get 1 rfl)
  go_wp2_with (fail)
  go_ret
  exact ⟨by simp, by have B := h5.bel; repeat (first | exact B | (refine Below.drew ?_) | (refine below_drewN ?_ _) | (refine Below.setCell ?_ (by have := B.size; simp; try omega) _) | (refine Below.alloc ?_ (by have := B.size; simp; try omega) _))⟩
set_option maxHeartbeats 8000000 in
theorem back_10 (r n : Int) (rl : -9223372036854775808 ≤ r ∧ r ≤ 9223372036854775807) (nl : -9223372036854775808 ≤ n ∧ n ≤ 9223372036854775807) (s : ByteArray) (hs : s.size ≤ 140737488355328) (w : World) (hL : Ldr w) (S : ByteArray) (hS : S.size ≤ 140737488355328) (hl : ¬ 100 < s.size) (hc : Hid (chkE r n 7 = 0)) (ht : Hid (txtS r n = S)) (hq : Hid (prs S.data.toList = (r, n, 0))) (hp : Hid (prs s.data.toList = (0, 0, 10))) : Calls Tryd.prog 8 #[.agg #[.int .i64 r, .int .i64 n], .string s] w fun e w' => e = .returned (.bool true) ∧ Below w.heap.size w w' := by
  go_enter Tryd.func8, Tryd.ntmps8
  have h0 := Bn.new hL
  go_wp2_with (fail)
  refine (Bn.call (Bn.push h0 (w.heap.size) #[.int .i64 (r), .int .i64 (n)] 23 (by simp)) (fun W hW => text_any r n W hW)).mono ?_
  rintro e w1 ⟨he, h1⟩
  rw [ht.out, hc.out] at he
  subst he
  have c0_0 := blkC (h1.get 0 rfl) 0; have c0_1 := blkC (h1.get 0 rfl) 1; have x0 := blkX (h1.get 0 rfl)
  go_wp2_with (fail)
  refine (Bn.call h1 (fun W hW => check_any r n 7 W)).mono ?_
  rintro e w2 ⟨he, h2⟩
  rw [hc.out] at he
  subst he
  clear c0_0 c0_1 x0
  have c0_0 := blkC (h2.get 0 rfl) 0; have c0_1 := blkC (h2.get 0 rfl) 1; have x0 := blkX (h2.get 0 rfl)
  go_wp2_with (fail)
  refine (Bn.call h2 (fun W hW => parse_any S hS W hW)).mono ?_
  rintro e w3 ⟨he, h3⟩
  rw [hq.out] at he
  subst he
  clear c0_0 c0_1 x0
  have c0_0 := blkC (h3.get 0 rfl) 0; have c0_1 := blkC (h3.get 0 rfl) 1; have x0 := blkX (h3.get 0 rfl)
  go_wp2_with (fail)
  refine (Bn.call (Bn.push h3 (w3.heap.size) #[.int .i64 (r), .int .i64 (n)] 23 (by simp)) (fun W hW => parse_any s hs W hW)).mono ?_
  rintro e w4 ⟨he, h4⟩
  rw [hp.out] at he
  subst he
  clear c0_0 c0_1 x0
  have c0_0 := blkC (h4.get 0 rfl) 0; have c0_1 := blkC (h4.get 0 rfl) 1; have x0 := blkX (h4.get 0 rfl); have c1_0 := blkC (h4.get 1 rfl) 0; have c1_1 := blkC (h4.get 1 rfl) 1; have x1 := blkX (h4.get 1 rfl)
  go_wp2_with (fail)
  refine (Bn.call (Bn.push h4 (w4.heap.size) #[.int .i64 (0), .int .i64 (0)] 23 (by simp)) (fun W hW => works_any W hW)).mono ?_
  rintro e w5 ⟨rfl, h5⟩
  clear c0_0 c0_1 x0 c1_0 c1_1 x1
  have c0_0 := blkC (h5.get 0 rfl) 0; have c0_1 := blkC (h5.get 0 rfl) 1; have x0 := blkX (h5.get 0 rfl); have c1_0 := blkC (h5.get 1 rfl) 0; have c1_1 := blkC (h5.get 1 rfl) 1; have x1 := blkX (h5.get 1 rfl); have c2_0 := blkC (h5.get 2 rfl) 0; have c2_1 := blkC (h5.get 2 rfl) 1; have x2 := blkX (h5.get 2 rfl)
  go_wp2_with (fail)
  go_ret
  exact ⟨by simp, by have B := h5.bel; repeat (first | exact B | (refine Below.drew ?_) | (refine below_drewN ?_ _) | (refine Below.setCell ?_ (by have := B.size; simp; try omega) _) | (refine Below.alloc ?_ (by have := B.size; simp; try omega) _))⟩
set_option maxHeartbeats 8000000 in
theorem back_11 (r n : Int) (rl : -9223372036854775808 ≤ r ∧ r ≤ 9223372036854775807) (nl : -9223372036854775808 ≤ n ∧ n ≤ 9223372036854775807) (s : ByteArray) (hs : s.size ≤ 140737488355328) (w : World) (hL : Ldr w) (S : ByteArray) (hS : S.size ≤ 140737488355328) (hl : ¬ 100 < s.size) (hc : Hid (chkE r n 7 = 0)) (ht : Hid (txtS r n = S)) (hq : Hid (prs S.data.toList = (r, n, 0))) (x y : Int) (hp : Hid (prs s.data.toList = (x, y, 0))) (hxt : Hid (txtS x y = s)) (hxc : Hid (chkE x y 7 = 0)) : Calls Tryd.prog 8 #[.agg #[.int .i64 r, .int .i64 n], .string s] w fun e w' => e = .returned (.bool true) ∧ Below w.heap.size w w' := by
  go_enter Tryd.func8, Tryd.ntmps8
  have h0 := Bn.new hL
  go_wp2_with (fail)
  refine (Bn.call (Bn.push h0 (w.heap.size) #[.int .i64 (r), .int .i64 (n)] 23 (by simp)) (fun W hW => text_any r n W hW)).mono ?_
  rintro e w1 ⟨he, h1⟩
  rw [ht.out, hc.out] at he
  subst he
  have c0_0 := blkC (h1.get 0 rfl) 0; have c0_1 := blkC (h1.get 0 rfl) 1; have x0 := blkX (h1.get 0 rfl)
  go_wp2_with (fail)
  refine (Bn.call h1 (fun W hW => check_any r n 7 W)).mono ?_
  rintro e w2 ⟨he, h2⟩
  rw [hc.out] at he
  subst he
  clear c0_0 c0_1 x0
  have c0_0 := blkC (h2.get 0 rfl) 0; have c0_1 := blkC (h2.get 0 rfl) 1; have x0 := blkX (h2.get 0 rfl)
  go_wp2_with (fail)
  refine (Bn.call h2 (fun W hW => parse_any S hS W hW)).mono ?_
  rintro e w3 ⟨he, h3⟩
  rw [hq.out] at he
  subst he
  clear c0_0 c0_1 x0
  have c0_0 := blkC (h3.get 0 rfl) 0; have c0_1 := blkC (h3.get 0 rfl) 1; have x0 := blkX (h3.get 0 rfl)
  go_wp2_with (fail)
  refine (Bn.call (Bn.push h3 (w3.heap.size) #[.int .i64 (r), .int .i64 (n)] 23 (by simp)) (fun W hW => parse_any s hs W hW)).mono ?_
  rintro e w4 ⟨he, h4⟩
  rw [hp.out] at he
  subst he
  clear c0_0 c0_1 x0
  have c0_0 := blkC (h4.get 0 rfl) 0; have c0_1 := blkC (h4.get 0 rfl) 1; have x0 := blkX (h4.get 0 rfl); have c1_0 := blkC (h4.get 1 rfl) 0; have c1_1 := blkC (h4.get 1 rfl) 1; have x1 := blkX (h4.get 1 rfl)
  go_wp2_with (fail)
  refine (Bn.call (Bn.push h4 (w4.heap.size) #[.int .i64 (x), .int .i64 (y)] 23 (by simp)) (fun W hW => text_any x y W hW)).mono ?_
  rintro e w5 ⟨he, h5⟩
  rw [hxt.out, hxc.out] at he
  subst he
  clear c0_0 c0_1 x0 c1_0 c1_1 x1
  have c0_0 := blkC (h5.get 0 rfl) 0; have c0_1 := blkC (h5.get 0 rfl) 1; have x0 := blkX (h5.get 0 rfl); have c1_0 := blkC (h5.get 1 rfl) 0; have c1_1 := blkC (h5.get 1 rfl) 1; have x1 := blkX (h5.get 1 rfl); have c2_0 := blkC (h5.get 2 rfl) 0; have c2_1 := blkC (h5.get 2 rfl) 1; have x2 := blkX (h5.get 2 rfl)
  go_wp2_with (fail)
  refine (Bn.call h5 (fun W hW => works_any W hW)).mono ?_
  rintro e w6 ⟨rfl, h6⟩
  clear c0_0 c0_1 x0 c1_0 c1_1 x1 c2_0 c2_1 x2
  have c0_0 := blkC (h6.get 0 rfl) 0; have c0_1 := blkC (h6.get 0 rfl) 1; have x0 := blkX (h6.get 0 rfl); have c1_0 := blkC (h6.get 1 rfl) 0; have c1_1 := blkC (h6.get 1 rfl) 1; have x1 := blkX (h6.get 1 rfl); have c2_0 := blkC (h6.get 2 rfl) 0; have c2_1 := blkC (h6.get 2 rfl) 1; have x2 := blkX (h6.get 2 rfl)
  go_wp2_with (fail)
  go_ret
  exact ⟨by simp, by have B := h6.bel; repeat (first | exact B | (refine Below.drew ?_) | (refine below_drewN ?_ _) | (refine Below.setCell ?_ (by have := B.size; simp; try omega) _) | (refine Below.alloc ?_ (by have := B.size; simp; try omega) _))⟩
set_option maxHeartbeats 8000000 in
theorem back_long (r n : Int) (rl : -9223372036854775808 ≤ r ∧ r ≤ 9223372036854775807) (nl : -9223372036854775808 ≤ n ∧ n ≤ 9223372036854775807) (s : ByteArray) (hs : s.size ≤ 140737488355328) (w : World) (hL : Ldr w) (hl : 100 < s.size) : Calls Tryd.prog 8 #[.agg #[.int .i64 r, .int .i64 n], .string s] w fun e w' => e = .returned (.bool true) ∧ Below w.heap.size w w' := by
  go_enter Tryd.func8, Tryd.ntmps8
  have h0 := Bn.new hL
  go_wp2_with (fail)
  refine (Bn.call (Bn.push h0 (w.heap.size) #[.int .i64 (r), .int .i64 (n)] 23 (by simp)) (fun W hW => works_any W hW)).mono ?_
  rintro e w1 ⟨rfl, h1⟩
  have c0_0 := blkC (h1.get 0 rfl) 0; have c0_1 := blkC (h1.get 0 rfl) 1; have x0 := blkX (h1.get 0 rfl)
  go_wp2_with (fail)
  go_ret
  exact ⟨by simp, by have B := h1.bel; repeat (first | exact B | (refine Below.drew ?_) | (refine below_drewN ?_ _) | (refine Below.setCell ?_ (by have := B.size; simp; try omega) _) | (refine Below.alloc ?_ (by have := B.size; simp; try omega) _))⟩
theorem back_walk (r n : Int) (rl : -9223372036854775808 ≤ r ∧ r ≤ 9223372036854775807) (nl : -9223372036854775808 ≤ n ∧ n ≤ 9223372036854775807) (s : ByteArray) (hs : s.size ≤ 140737488355328) (w : World) (hL : Ldr w) : Calls Tryd.prog 8 #[.agg #[.int .i64 r, .int .i64 n], .string s] w fun e w' => e = .returned (.bool true) ∧ Below w.heap.size w w' := by
  by_cases hl : 100 < s.size
  · exact back_long r n rl nl s hs w hL hl
  have hpc : prs s.data.toList = (0, 0, 10) ∨ ∃ x y, prs s.data.toList = (x, y, 0) ∧ txtS x y = s ∧ chkE x y 7 = 0 := by
    rcases prs_or s.data.toList with h | ⟨x, y, h1, h2, h3⟩
    · exact .inl h
    · exact .inr ⟨x, y, h1, (txtS_iff h2).2 h3, chkE_ok h2⟩
  rcases Bool.eq_false_or_eq_true (vld r n 7) with hv | hv
  · have hS : (txtS r n).size ≤ 140737488355328 := by
      rw [txtS_ok hv]
      have := (txt_len hv).1
      show (txt r n).toArray.size ≤ _
      rw [List.size_toArray]; omega
    have hq : prs (txtS r n).data.toList = (r, n, 0) := by rw [txtS_ok hv]; exact prs_txt hv
    rcases hpc with h | ⟨x, y, h1, h2, h3⟩
    · exact back_10 r n rl nl s hs w hL _ hS hl (chkE_ok hv) rfl hq h
    · exact back_11 r n rl nl s hs w hL _ hS hl (chkE_ok hv) rfl hq x y h1 h2 h3
  · rcases hpc with h | ⟨x, y, h1, h2, h3⟩
    · exact back_00 r n rl nl s hs w hL hl (chkE_bad hv) (txtS_bad hv) h
    · exact back_01 r n rl nl s hs w hL hl (chkE_bad hv) (txtS_bad hv) x y h1 h2 h3
end Go.Proofs.YtflpnokhcaepfaaDoor
