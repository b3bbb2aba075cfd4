/- BallotNext's walk. -/
import Derived.Test.YtflpnokhcaepfaaDoorWorks
import Derived.Test.YtflpnokhcaepfaaDoorMade
import Derived.Test.YtflpnokhcaepfaaDoorLaws
namespace Go.Proofs.YtflpnokhcaepfaaDoor
open Go.RowKit
set_option linter.unusedSimpArgs false
set_option linter.unusedVariables false
set_option linter.unusedSectionVars false
set_option maxRecDepth 10000
set_option maxHeartbeats 8000000 in
theorem next_over (r : Int) (hr : 0 ≤ r ∧ r ≤ 4294967295) (d : Int) (hd : 0 ≤ d ∧ d ≤ 255) (a : Int) (al : 0 ≤ a ∧ a ≤ 255) (b : Int) (bl : 0 ≤ b ∧ b ≤ 255) (o : Int) (ol : 0 ≤ o ∧ o ≤ 4294967295) (w : World) (hL : Ldr w) (N : Int) (hA1 : Hid (mdR r = 1073741824)) (hA2 : Hid (mdN r d 7 = N)) (hn : a % 7 ≤ N) (Z Zn Ze : Int) (hy : Hid (nxt 1073741824 N (a % 7) = (0, 0, 7))) (hz : Hid (nxt 1073741824 N (b % 7) = (Z, Zn, Ze))) : Calls Tryd.prog 6 #[.int .u32 r, .int .u8 d, .int .u8 a, .int .u8 b, .int .u32 o] w fun e w' => e = .returned (.bool true) ∧ Below w.heap.size w w' := by
  have p0 : 0 ≤ a % 7 := by omega
  have p7 : a % 7 < 7 := by omega
  have q0 : 0 ≤ b % 7 := by omega
  have q7 : b % 7 < 7 := by omega
  obtain ⟨al0, al1⟩ := al
  obtain ⟨bl0, bl1⟩ := bl
  obtain ⟨ol0, ol1⟩ := ol
  go_enter Tryd.func6, Tryd.ntmps6
  have h0 := Bn.new hL
  go_wp2_with (fail)
  refine (Bn.call h0 (fun W hW => made_any r d 7 hr hd (by omega) W)).mono ?_
  rintro e w1 ⟨he, h1⟩
  rw [hA1.out, hA2.out] at he
  subst he
  go_wp2_with (fail)
  refine (Bn.call (Bn.push h1 (w1.heap.size) #[.int .i64 (1073741824), .int .i64 (N)] 23 (by simp)) (fun W hW => next_any 1073741824 N (a % 7) W)).mono ?_
  rintro e w2 ⟨he, h2⟩
  rw [hy.out] at he
  subst he
  have c0_0 := blkC (h2.get 0 rfl) 0; have c0_1 := blkC (h2.get 0 rfl) 1; have x0 := blkX (h2.get 0 rfl)
  go_wp2_with (fail)
  refine (Bn.call (Bn.push h2 (w2.heap.size) #[.int .i64 (0), .int .i64 (0)] 23 (by simp)) (fun W hW => next_any 1073741824 N (b % 7) W)).mono ?_
  rintro e w3 ⟨he, h3⟩
  rw [hz.out] at he
  subst he
  clear c0_0 c0_1 x0
  have c0_0 := blkC (h3.get 0 rfl) 0; have c0_1 := blkC (h3.get 0 rfl) 1; have x0 := blkX (h3.get 0 rfl); have c1_0 := blkC (h3.get 1 rfl) 0; have c1_1 := blkC (h3.get 1 rfl) 1; have x1 := blkX (h3.get 1 rfl)
  go_wp2_with (fail)
  refine (Bn.call (Bn.push h3 (w3.heap.size) #[.int .i64 (Z), .int .i64 (Zn)] 23 (by simp)) (fun W hW => works_any W hW)).mono ?_
  rintro e w4 ⟨rfl, h4⟩
  clear c0_0 c0_1 x0 c1_0 c1_1 x1
  have c0_0 := blkC (h4.get 0 rfl) 0; have c0_1 := blkC (h4.get 0 rfl) 1; have x0 := blkX (h4.get 0 rfl); have c1_0 := blkC (h4.get 1 rfl) 0; have c1_1 := blkC (h4.get 1 rfl) 1; have x1 := blkX (h4.get 1 rfl); have c2_0 := blkC (h4.get 2 rfl) 0; have c2_1 := blkC (h4.get 2 rfl) 1; have x2 := blkX (h4.get 2 rfl)
  go_wp2_with (fail)
  go_ret
  exact ⟨by simp, by have B := h4.bel; repeat (first | exact B | (refine Below.drew ?_) | (refine below_drewN ?_ _) | (refine Below.setCell ?_ (by have := B.size; simp; try omega) _) | (refine Below.alloc ?_ (by have := B.size; simp; try omega) _))⟩
/-- What the loop over the rounds keeps. -/
structure NL (w : World) (L : List (Nat × Array Value × TypeId)) (g : Nat) (v p : Int) (W : World) : Prop where
  bn : Bn w L W
  at_ : W.heap[g]? = some (.cells #[.int .i64 v, .int .i64 p] 23 (0, 0))
theorem NL.keep {w W W' : World} {L : List (Nat × Array Value × TypeId)} {g : Nat} {v p : Int} (h : NL w L g v p W) (hb : Below W.heap.size W W') : NL w L g v p W' := ⟨h.bn.keep hb, (hb.block _ (blkX h.at_)).trans h.at_⟩
theorem NL.set {w W : World} {L : List (Nat × Array Value × TypeId)} {g : Nat} {v p : Int} (h : NL w L g v p W) (hL : Ldr w) (hg : w.heap.size ≤ g) (hne : ∀ x ∈ L, x.1 ≠ g) (u : Int) : NL w L g u p (W.setCell ⟨g, 0, none⟩ (.int .i64 u)) := by
  have hb := h.bn.bel.setCell (p := ⟨g, 0, none⟩) hg (.int .i64 u)
  exact ⟨⟨hb, hL.keep hb, fun x hx => (hpFar (hne x hx)).trans (h.bn.blk x hx)⟩, by simpa using hpSet (i := 0) (v := .int .i64 u) h.at_⟩
theorem NL.call {w W : World} {L : List (Nat × Array Value × TypeId)} {g : Nat} {v p : Int} {P : Program} {f : FuncId} {args : Array Value} {u : Value} (h : NL w L g v p W) (c : ∀ W : World, Ldr W → Calls P f args W fun e w' => e = .returned u ∧ Below W.heap.size W w') : Calls P f args W fun e w' => e = .returned u ∧ NL w L g v p w' :=
  (c W h.bn.ldr).mono fun _ _ ⟨he, hb⟩ => ⟨he, h.keep hb⟩
theorem Bn.sub {w W : World} {L M : List (Nat × Array Value × TypeId)} (h : Bn w L W) (hs : ∀ x ∈ M, x ∈ L) : Bn w M W := ⟨h.bel, h.ldr, fun x hx => h.blk x (hs x hx)⟩
set_option maxHeartbeats 8000000 in
theorem next_none (r : Int) (hr : 0 ≤ r ∧ r ≤ 4294967295) (d : Int) (hd : 0 ≤ d ∧ d ≤ 255) (a : Int) (al : 0 ≤ a ∧ a ≤ 255) (b : Int) (bl : 0 ≤ b ∧ b ≤ 255) (o : Int) (ol : 0 ≤ o ∧ o ≤ 4294967295) (w : World) (hL : Ldr w) (R N : Int) (hA1 : Hid (mdR r = R)) (hA2 : Hid (mdN r d 7 = N)) (Y : Int) (Y1 : 1 ≤ Y) (Y2 : Y ≤ 1073741824) (R0 : 0 ≤ R) (R1 : R ≤ 1073741824) (N0 : 0 ≤ N) (N1 : N ≤ 6) (hy : Hid (nxt R N (a % 7) = (Y, a % 7, 0))) (hck : Hid (chkE Y (a % 7) 7 = 0)) (ho : Hid (ordI R N Y (a % 7) = -1)) (hB : Hid (∀ b, 1 ≤ b → ordI R N b (a % 7) < 0 → ¬ ordI b (a % 7) Y (a % 7) < 0)) (hz : Hid (nxt R N (b % 7) = (0, 0, 7))) : Calls Tryd.prog 6 #[.int .u32 r, .int .u8 d, .int .u8 a, .int .u8 b, .int .u32 o] w fun e w' => e = .returned (.bool true) ∧ Below w.heap.size w w' := by
  have p0 : 0 ≤ a % 7 := by omega
  have p7 : a % 7 < 7 := by omega
  have q0 : 0 ≤ b % 7 := by omega
  have q7 : b % 7 < 7 := by omega
  obtain ⟨al0, al1⟩ := al
  obtain ⟨bl0, bl1⟩ := bl
  obtain ⟨ol0, ol1⟩ := ol
  go_enter Tryd.func6, Tryd.ntmps6
  have h0 := Bn.new hL
  go_wp2_with (fail)
  refine (Bn.call h0 (fun W hW => made_any r d 7 hr hd (by omega) W)).mono ?_
  rintro e w1 ⟨he, h1⟩
  rw [hA1.out, hA2.out] at he
  subst he
  go_wp2_with (fail)
  refine (Bn.call (Bn.push h1 (w1.heap.size) #[.int .i64 (R), .int .i64 (N)] 23 (by simp)) (fun W hW => next_any R N (a % 7) W)).mono ?_
  rintro e w2 ⟨he, h2⟩
  rw [hy.out] at he
  subst he
  have c0_0 := blkC (h2.get 0 rfl) 0; have c0_1 := blkC (h2.get 0 rfl) 1; have x0 := blkX (h2.get 0 rfl)
  go_wp2_with (fail)
  refine (Bn.call (Bn.push h2 (w2.heap.size) #[.int .i64 (Y), .int .i64 (a % 7)] 23 (by simp)) (fun W hW => next_any R N (b % 7) W)).mono ?_
  rintro e w3 ⟨he, h3⟩
  rw [hz.out] at he
  subst he
  clear c0_0 c0_1 x0
  have c0_0 := blkC (h3.get 0 rfl) 0; have c0_1 := blkC (h3.get 0 rfl) 1; have x0 := blkX (h3.get 0 rfl); have c1_0 := blkC (h3.get 1 rfl) 0; have c1_1 := blkC (h3.get 1 rfl) 1; have x1 := blkX (h3.get 1 rfl)
  go_wp2_with (fail)
  refine (Bn.call (Bn.push h3 (w3.heap.size) #[.int .i64 (0), .int .i64 (0)] 23 (by simp)) (fun W hW => check_any Y (a % 7) 7 W)).mono ?_
  rintro e w4 ⟨he, h4⟩
  rw [hck.out] at he
  subst he
  clear c0_0 c0_1 x0 c1_0 c1_1 x1
  have c0_0 := blkC (h4.get 0 rfl) 0; have c0_1 := blkC (h4.get 0 rfl) 1; have x0 := blkX (h4.get 0 rfl); have c1_0 := blkC (h4.get 1 rfl) 0; have c1_1 := blkC (h4.get 1 rfl) 1; have x1 := blkX (h4.get 1 rfl); have c2_0 := blkC (h4.get 2 rfl) 0; have c2_1 := blkC (h4.get 2 rfl) 1; have x2 := blkX (h4.get 2 rfl)
  go_wp2_with (fail)
  refine (Bn.call h4 (fun W hW => order_any R N Y (a % 7) W)).mono ?_
  rintro e w5 ⟨he, h5⟩
  rw [ho.out] at he
  subst he
  clear c0_0 c0_1 x0 c1_0 c1_1 x1 c2_0 c2_1 x2
  have c0_0 := blkC (h5.get 0 rfl) 0; have c0_1 := blkC (h5.get 0 rfl) 1; have x0 := blkX (h5.get 0 rfl); have c1_0 := blkC (h5.get 1 rfl) 0; have c1_1 := blkC (h5.get 1 rfl) 1; have x1 := blkX (h5.get 1 rfl); have c2_0 := blkC (h5.get 2 rfl) 0; have c2_1 := blkC (h5.get 2 rfl) 1; have x2 := blkX (h5.get 2 rfl)
  go_wp2_with (fail)
  have l1 := h1.bel.size; have l2 := h2.bel.size
  have hN0 : NL w [(w1.heap.size, #[.int .i64 R, .int .i64 N], 23), (w2.heap.size, #[.int .i64 Y, .int .i64 (a % 7)], 23), (w5.heap.size + 1, #[.int .i64 (o % 1073741824 + 1), .int .i64 (Y - 1), .int .i64 (Y - 2)], 3)] w5.heap.size (o % 1073741824 + 1) (a % 7) _ := ⟨Bn.sub ((h5.push w5.heap.size #[.int .i64 (o % 1073741824 + 1), .int .i64 (a % 7)] 23 rfl).push (w5.heap.size + 1) #[.int .i64 (o % 1073741824 + 1), .int .i64 (Y - 1), .int .i64 (Y - 2)] 3 (by simp)) (by simp), (hpOld _ (by simp)).trans (hpNew _ _)⟩
  have hlow : w.heap.size ≤ w5.heap.size := h5.bel.size
  have hne : ∀ x ∈ ([(w1.heap.size, #[.int .i64 R, .int .i64 N], 23), (w2.heap.size, #[.int .i64 Y, .int .i64 (a % 7)], 23), (w5.heap.size + 1, #[.int .i64 (o % 1073741824 + 1), .int .i64 (Y - 1), .int .i64 (Y - 2)], 3)] : List (Nat × Array Value × TypeId)), x.1 ≠ w5.heap.size := by
    intro x hx
    simp only [List.mem_cons, List.not_mem_nil, or_false] at hx
    rcases hx with rfl | rfl | rfl <;> simp only <;> omega
  replace hne := Lib.hid hne
  replace hN0 := Lib.hid hN0
  clear h0 h1 h2 h3 h4 h5 c0_0 c0_1 c1_0 c1_1 c2_0 c2_1
  go_loopw [114] (fun i wr => ∃ (k : Nat) (v : Int), k ≤ 3 ∧ i = .int .i64 k ∧ NL w [(w1.heap.size, #[.int .i64 R, .int .i64 N], 23), (w2.heap.size, #[.int .i64 Y, .int .i64 (a % 7)], 23), (w5.heap.size + 1, #[.int .i64 (o % 1073741824 + 1), .int .i64 (Y - 1), .int .i64 (Y - 2)], 3)] w5.heap.size v (a % 7) wr) (fun i _ => 3 - (intOf i).toNat)
  case atStart => exact ⟨0, _, by omega, rfl, hN0.out⟩
  case round =>
    clear hN0
    obtain ⟨k, v, hk, rfl, hN⟩ := hrel
    have g0 := blkC (hN.bn.get 0 rfl) 0; have g1 := blkC (hN.bn.get 0 rfl) 1; have g2 := blkC (hN.bn.get 1 rfl) 0; have g3 := blkC (hN.bn.get 1 rfl) 1
    have g4 := blkC (hN.bn.get 2 rfl) 0; have g5 := blkC (hN.bn.get 2 rfl) 1; have g6 := blkC (hN.bn.get 2 rfl) 2
    have b0 := blkC hN.at_ 0; have b1 := blkC hN.at_ 1; have bf := blkF hN.at_
    have y0 := blkX (hN.bn.get 0 rfl); have y1 := blkX (hN.bn.get 1 rfl); have y2 := blkX (hN.bn.get 2 rfl); have y3 := blkX hN.at_
    have hkk : k = 0 ∨ k = 1 ∨ k = 2 ∨ k = 3 := by omega
    clear hk
    replace hN := Lib.hid hN
    rcases hkk with rfl | rfl | rfl | rfl
    · obtain ⟨E, hE⟩ : ∃ E, o % 1073741824 + 1 = E := ⟨_, rfl⟩
      by_cases he : 1 ≤ o % 1073741824 + 1
      · obtain ⟨o1, ho1⟩ : ∃ o1, ordI R N (o % 1073741824 + 1) (a % 7) = o1 := ⟨_, rfl⟩
        have hB' := hB.out _ he
        rw [ho1] at hB'
        replace ho1 := Lib.hid ho1
        clear hE hB
        by_cases hq : o1 < 0
        · obtain ⟨o2, ho2⟩ : ∃ o2, ordI (o % 1073741824 + 1) (a % 7) Y (a % 7) = o2 := ⟨_, rfl⟩
          replace hB' := hB' hq
          rw [ho2] at hB'
          replace ho2 := Lib.hid ho2
          go_wp2_with (fail)
          refine (NL.call (hN.out.set hL hlow hne.out (o % 1073741824 + 1)) (fun W hW => order_any R N (o % 1073741824 + 1) (a % 7) W)).mono ?_
          rintro e w6 ⟨he6, h6⟩
          rw [ho1.out] at he6
          subst he6
          clear g0 g1 g2 g3 g4 g5 g6 b0 b1 bf
          have g0 := blkC (h6.bn.get 0 rfl) 0; have g1 := blkC (h6.bn.get 0 rfl) 1; have g2 := blkC (h6.bn.get 1 rfl) 0; have g3 := blkC (h6.bn.get 1 rfl) 1
          have b0 := blkC h6.at_ 0; have b1 := blkC h6.at_ 1
          go_wp2_with (fail)
          refine (NL.call h6 (fun W hW => order_any (o % 1073741824 + 1) (a % 7) Y (a % 7) W)).mono ?_
          rintro e w7 ⟨he7, h7⟩
          rw [ho2.out] at he7
          subst he7
          clear g0 g1 g2 g3 b0 b1
          have g0 := blkC (h7.bn.get 0 rfl) 0
          go_wp2_with (fail)
          exact ⟨⟨1, _, by omega, by go_num, h7⟩, by simp [intOf]⟩
        · clear hB'
          go_wp2_with (fail)
          refine (NL.call (hN.out.set hL hlow hne.out (o % 1073741824 + 1)) (fun W hW => order_any R N (o % 1073741824 + 1) (a % 7) W)).mono ?_
          rintro e w6 ⟨he6, h6⟩
          rw [ho1.out] at he6
          subst he6
          clear g0 g1 g2 g3 g4 g5 g6 b0 b1 bf
          go_wp2_with (fail)
          exact ⟨⟨1, _, by omega, by go_num, h6⟩, by simp [intOf]⟩
      · exfalso; omega
    · obtain ⟨E, hE⟩ : ∃ E, Y - 1 = E := ⟨_, rfl⟩
      by_cases he : 1 ≤ Y - 1
      · obtain ⟨o1, ho1⟩ : ∃ o1, ordI R N (Y - 1) (a % 7) = o1 := ⟨_, rfl⟩
        have hB' := hB.out _ he
        rw [ho1] at hB'
        replace ho1 := Lib.hid ho1
        clear hE hB
        by_cases hq : o1 < 0
        · obtain ⟨o2, ho2⟩ : ∃ o2, ordI (Y - 1) (a % 7) Y (a % 7) = o2 := ⟨_, rfl⟩
          replace hB' := hB' hq
          rw [ho2] at hB'
          replace ho2 := Lib.hid ho2
          go_wp2_with (fail)
          refine (NL.call (hN.out.set hL hlow hne.out (Y - 1)) (fun W hW => order_any R N (Y - 1) (a % 7) W)).mono ?_
          rintro e w6 ⟨he6, h6⟩
          rw [ho1.out] at he6
          subst he6
          clear g0 g1 g2 g3 g4 g5 g6 b0 b1 bf
          have g0 := blkC (h6.bn.get 0 rfl) 0; have g1 := blkC (h6.bn.get 0 rfl) 1; have g2 := blkC (h6.bn.get 1 rfl) 0; have g3 := blkC (h6.bn.get 1 rfl) 1
          have b0 := blkC h6.at_ 0; have b1 := blkC h6.at_ 1
          go_wp2_with (fail)
          refine (NL.call h6 (fun W hW => order_any (Y - 1) (a % 7) Y (a % 7) W)).mono ?_
          rintro e w7 ⟨he7, h7⟩
          rw [ho2.out] at he7
          subst he7
          clear g0 g1 g2 g3 b0 b1
          have g0 := blkC (h7.bn.get 0 rfl) 0
          go_wp2_with (fail)
          exact ⟨⟨2, _, by omega, by go_num, h7⟩, by simp [intOf]⟩
        · clear hB'
          go_wp2_with (fail)
          refine (NL.call (hN.out.set hL hlow hne.out (Y - 1)) (fun W hW => order_any R N (Y - 1) (a % 7) W)).mono ?_
          rintro e w6 ⟨he6, h6⟩
          rw [ho1.out] at he6
          subst he6
          clear g0 g1 g2 g3 g4 g5 g6 b0 b1 bf
          go_wp2_with (fail)
          exact ⟨⟨2, _, by omega, by go_num, h6⟩, by simp [intOf]⟩
      · clear hE hB
        go_wp2_with (fail)
        exact ⟨⟨2, _, by omega, by go_num, hN.out.set hL hlow hne.out (Y - 1)⟩, by simp [intOf]⟩
    · obtain ⟨E, hE⟩ : ∃ E, Y - 2 = E := ⟨_, rfl⟩
      by_cases he : 1 ≤ Y - 2
      · obtain ⟨o1, ho1⟩ : ∃ o1, ordI R N (Y - 2) (a % 7) = o1 := ⟨_, rfl⟩
        have hB' := hB.out _ he
        rw [ho1] at hB'
        replace ho1 := Lib.hid ho1
        clear hE hB
        by_cases hq : o1 < 0
        · obtain ⟨o2, ho2⟩ : ∃ o2, ordI (Y - 2) (a % 7) Y (a % 7) = o2 := ⟨_, rfl⟩
          replace hB' := hB' hq
          rw [ho2] at hB'
          replace ho2 := Lib.hid ho2
          go_wp2_with (fail)
          refine (NL.call (hN.out.set hL hlow hne.out (Y - 2)) (fun W hW => order_any R N (Y - 2) (a % 7) W)).mono ?_
          rintro e w6 ⟨he6, h6⟩
          rw [ho1.out] at he6
          subst he6
          clear g0 g1 g2 g3 g4 g5 g6 b0 b1 bf
          have g0 := blkC (h6.bn.get 0 rfl) 0; have g1 := blkC (h6.bn.get 0 rfl) 1; have g2 := blkC (h6.bn.get 1 rfl) 0; have g3 := blkC (h6.bn.get 1 rfl) 1
          have b0 := blkC h6.at_ 0; have b1 := blkC h6.at_ 1
          go_wp2_with (fail)
          refine (NL.call h6 (fun W hW => order_any (Y - 2) (a % 7) Y (a % 7) W)).mono ?_
          rintro e w7 ⟨he7, h7⟩
          rw [ho2.out] at he7
          subst he7
          clear g0 g1 g2 g3 b0 b1
          have g0 := blkC (h7.bn.get 0 rfl) 0
          go_wp2_with (fail)
          exact ⟨⟨3, _, by omega, by go_num, h7⟩, by simp [intOf]⟩
        · clear hB'
          go_wp2_with (fail)
          refine (NL.call (hN.out.set hL hlow hne.out (Y - 2)) (fun W hW => order_any R N (Y - 2) (a % 7) W)).mono ?_
          rintro e w6 ⟨he6, h6⟩
          rw [ho1.out] at he6
          subst he6
          clear g0 g1 g2 g3 g4 g5 g6 b0 b1 bf
          go_wp2_with (fail)
          exact ⟨⟨3, _, by omega, by go_num, h6⟩, by simp [intOf]⟩
      · clear hE hB
        go_wp2_with (fail)
        exact ⟨⟨3, _, by omega, by go_num, hN.out.set hL hlow hne.out (Y - 2)⟩, by simp [intOf]⟩
    · go_wp2_with (fail)
      refine (NL.call hN.out (fun W hW => works_any W hW)).mono ?_
      rintro e w6 ⟨rfl, h6⟩
      go_wp2_with (fail)
      go_ret
      exact ⟨rfl, h6.bn.bel⟩
set_option maxHeartbeats 8000000 in
theorem next_same (r : Int) (hr : 0 ≤ r ∧ r ≤ 4294967295) (d : Int) (hd : 0 ≤ d ∧ d ≤ 255) (a : Int) (al : 0 ≤ a ∧ a ≤ 255) (b : Int) (bl : 0 ≤ b ∧ b ≤ 255) (o : Int) (ol : 0 ≤ o ∧ o ≤ 4294967295) (w : World) (hL : Ldr w) (R N : Int) (hA1 : Hid (mdR r = R)) (hA2 : Hid (mdN r d 7 = N)) (Y : Int) (Y1 : 1 ≤ Y) (Y2 : Y ≤ 1073741824) (R0 : 0 ≤ R) (R1 : R ≤ 1073741824) (N0 : 0 ≤ N) (N1 : N ≤ 6) (hy : Hid (nxt R N (a % 7) = (Y, a % 7, 0))) (hck : Hid (chkE Y (a % 7) 7 = 0)) (ho : Hid (ordI R N Y (a % 7) = -1)) (hB : Hid (∀ b, 1 ≤ b → ordI R N b (a % 7) < 0 → ¬ ordI b (a % 7) Y (a % 7) < 0)) (hpq : b % 7 = a % 7) (hz : Hid (nxt R N (a % 7) = (Y, a % 7, 0))) : Calls Tryd.prog 6 #[.int .u32 r, .int .u8 d, .int .u8 a, .int .u8 b, .int .u32 o] w fun e w' => e = .returned (.bool true) ∧ Below w.heap.size w w' := by
  have p0 : 0 ≤ a % 7 := by omega
  have p7 : a % 7 < 7 := by omega
  have q0 : 0 ≤ b % 7 := by omega
  have q7 : b % 7 < 7 := by omega
  obtain ⟨al0, al1⟩ := al
  obtain ⟨bl0, bl1⟩ := bl
  obtain ⟨ol0, ol1⟩ := ol
  go_enter Tryd.func6, Tryd.ntmps6
  have h0 := Bn.new hL
  go_wp2_with (fail)
  refine (Bn.call h0 (fun W hW => made_any r d 7 hr hd (by omega) W)).mono ?_
  rintro e w1 ⟨he, h1⟩
  rw [hA1.out, hA2.out] at he
  subst he
  go_wp2_with (fail)
  refine (Bn.call (Bn.push h1 (w1.heap.size) #[.int .i64 (R), .int .i64 (N)] 23 (by simp)) (fun W hW => next_any R N (a % 7) W)).mono ?_
  rintro e w2 ⟨he, h2⟩
  rw [hy.out] at he
  subst he
  have c0_0 := blkC (h2.get 0 rfl) 0; have c0_1 := blkC (h2.get 0 rfl) 1; have x0 := blkX (h2.get 0 rfl)
  go_wp2_with (fail)
  refine (Bn.call (Bn.push h2 (w2.heap.size) #[.int .i64 (Y), .int .i64 (a % 7)] 23 (by simp)) (fun W hW => next_any R N (a % 7) W)).mono ?_
  rintro e w3 ⟨he, h3⟩
  rw [hz.out] at he
  subst he
  clear c0_0 c0_1 x0
  have c0_0 := blkC (h3.get 0 rfl) 0; have c0_1 := blkC (h3.get 0 rfl) 1; have x0 := blkX (h3.get 0 rfl); have c1_0 := blkC (h3.get 1 rfl) 0; have c1_1 := blkC (h3.get 1 rfl) 1; have x1 := blkX (h3.get 1 rfl)
  go_wp2_with (fail)
  refine (Bn.call (Bn.push h3 (w3.heap.size) #[.int .i64 (Y), .int .i64 (a % 7)] 23 (by simp)) (fun W hW => check_any Y (a % 7) 7 W)).mono ?_
  rintro e w4 ⟨he, h4⟩
  rw [hck.out] at he
  subst he
  clear c0_0 c0_1 x0 c1_0 c1_1 x1
  have c0_0 := blkC (h4.get 0 rfl) 0; have c0_1 := blkC (h4.get 0 rfl) 1; have x0 := blkX (h4.get 0 rfl); have c1_0 := blkC (h4.get 1 rfl) 0; have c1_1 := blkC (h4.get 1 rfl) 1; have x1 := blkX (h4.get 1 rfl); have c2_0 := blkC (h4.get 2 rfl) 0; have c2_1 := blkC (h4.get 2 rfl) 1; have x2 := blkX (h4.get 2 rfl)
  go_wp2_with (fail)
  refine (Bn.call h4 (fun W hW => order_any R N Y (a % 7) W)).mono ?_
  rintro e w5 ⟨he, h5⟩
  rw [ho.out] at he
  subst he
  clear c0_0 c0_1 x0 c1_0 c1_1 x1 c2_0 c2_1 x2
  have c0_0 := blkC (h5.get 0 rfl) 0; have c0_1 := blkC (h5.get 0 rfl) 1; have x0 := blkX (h5.get 0 rfl); have c1_0 := blkC (h5.get 1 rfl) 0; have c1_1 := blkC (h5.get 1 rfl) 1; have x1 := blkX (h5.get 1 rfl); have c2_0 := blkC (h5.get 2 rfl) 0; have c2_1 := blkC (h5.get 2 rfl) 1; have x2 := blkX (h5.get 2 rfl)
  go_wp2_with (fail)
  have l1 := h1.bel.size; have l2 := h2.bel.size
  have hN0 : NL w [(w1.heap.size, #[.int .i64 R, .int .i64 N], 23), (w2.heap.size, #[.int .i64 Y, .int .i64 (a % 7)], 23), (w5.heap.size + 1, #[.int .i64 (o % 1073741824 + 1), .int .i64 (Y - 1), .int .i64 (Y - 2)], 3)] w5.heap.size (o % 1073741824 + 1) (a % 7) _ := ⟨Bn.sub ((h5.push w5.heap.size #[.int .i64 (o % 1073741824 + 1), .int .i64 (a % 7)] 23 rfl).push (w5.heap.size + 1) #[.int .i64 (o % 1073741824 + 1), .int .i64 (Y - 1), .int .i64 (Y - 2)] 3 (by simp)) (by simp), (hpOld _ (by simp)).trans (hpNew _ _)⟩
  have hlow : w.heap.size ≤ w5.heap.size := h5.bel.size
  have hne : ∀ x ∈ ([(w1.heap.size, #[.int .i64 R, .int .i64 N], 23), (w2.heap.size, #[.int .i64 Y, .int .i64 (a % 7)], 23), (w5.heap.size + 1, #[.int .i64 (o % 1073741824 + 1), .int .i64 (Y - 1), .int .i64 (Y - 2)], 3)] : List (Nat × Array Value × TypeId)), x.1 ≠ w5.heap.size := by
    intro x hx
    simp only [List.mem_cons, List.not_mem_nil, or_false] at hx
    rcases hx with rfl | rfl | rfl <;> simp only <;> omega
  replace hne := Lib.hid hne
  replace hN0 := Lib.hid hN0
  clear h0 h1 h2 h3 h4 h5 c0_0 c0_1 c1_0 c1_1 c2_0 c2_1
  go_loopw [114] (fun i wr => ∃ (k : Nat) (v : Int), k ≤ 3 ∧ i = .int .i64 k ∧ NL w [(w1.heap.size, #[.int .i64 R, .int .i64 N], 23), (w2.heap.size, #[.int .i64 Y, .int .i64 (a % 7)], 23), (w5.heap.size + 1, #[.int .i64 (o % 1073741824 + 1), .int .i64 (Y - 1), .int .i64 (Y - 2)], 3)] w5.heap.size v (a % 7) wr) (fun i _ => 3 - (intOf i).toNat)
  case atStart => exact ⟨0, _, by omega, rfl, hN0.out⟩
  case round =>
    clear hN0
    obtain ⟨k, v, hk, rfl, hN⟩ := hrel
    have g0 := blkC (hN.bn.get 0 rfl) 0; have g1 := blkC (hN.bn.get 0 rfl) 1; have g2 := blkC (hN.bn.get 1 rfl) 0; have g3 := blkC (hN.bn.get 1 rfl) 1
    have g4 := blkC (hN.bn.get 2 rfl) 0; have g5 := blkC (hN.bn.get 2 rfl) 1; have g6 := blkC (hN.bn.get 2 rfl) 2
    have b0 := blkC hN.at_ 0; have b1 := blkC hN.at_ 1; have bf := blkF hN.at_
    have y0 := blkX (hN.bn.get 0 rfl); have y1 := blkX (hN.bn.get 1 rfl); have y2 := blkX (hN.bn.get 2 rfl); have y3 := blkX hN.at_
    have hkk : k = 0 ∨ k = 1 ∨ k = 2 ∨ k = 3 := by omega
    clear hk
    replace hN := Lib.hid hN
    rcases hkk with rfl | rfl | rfl | rfl
    · obtain ⟨E, hE⟩ : ∃ E, o % 1073741824 + 1 = E := ⟨_, rfl⟩
      by_cases he : 1 ≤ o % 1073741824 + 1
      · obtain ⟨o1, ho1⟩ : ∃ o1, ordI R N (o % 1073741824 + 1) (a % 7) = o1 := ⟨_, rfl⟩
        have hB' := hB.out _ he
        rw [ho1] at hB'
        replace ho1 := Lib.hid ho1
        clear hE hB
        by_cases hq : o1 < 0
        · obtain ⟨o2, ho2⟩ : ∃ o2, ordI (o % 1073741824 + 1) (a % 7) Y (a % 7) = o2 := ⟨_, rfl⟩
          replace hB' := hB' hq
          rw [ho2] at hB'
          replace ho2 := Lib.hid ho2
          go_wp2_with (fail)
          refine (NL.call (hN.out.set hL hlow hne.out (o % 1073741824 + 1)) (fun W hW => order_any R N (o % 1073741824 + 1) (a % 7) W)).mono ?_
          rintro e w6 ⟨he6, h6⟩
          rw [ho1.out] at he6
          subst he6
          clear g0 g1 g2 g3 g4 g5 g6 b0 b1 bf
          have g0 := blkC (h6.bn.get 0 rfl) 0; have g1 := blkC (h6.bn.get 0 rfl) 1; have g2 := blkC (h6.bn.get 1 rfl) 0; have g3 := blkC (h6.bn.get 1 rfl) 1
          have b0 := blkC h6.at_ 0; have b1 := blkC h6.at_ 1
          go_wp2_with (fail)
          refine (NL.call h6 (fun W hW => order_any (o % 1073741824 + 1) (a % 7) Y (a % 7) W)).mono ?_
          rintro e w7 ⟨he7, h7⟩
          rw [ho2.out] at he7
          subst he7
          clear g0 g1 g2 g3 b0 b1
          have g0 := blkC (h7.bn.get 0 rfl) 0
          go_wp2_with (fail)
          exact ⟨⟨1, _, by omega, by go_num, h7⟩, by simp [intOf]⟩
        · clear hB'
          go_wp2_with (fail)
          refine (NL.call (hN.out.set hL hlow hne.out (o % 1073741824 + 1)) (fun W hW => order_any R N (o % 1073741824 + 1) (a % 7) W)).mono ?_
          rintro e w6 ⟨he6, h6⟩
          rw [ho1.out] at he6
          subst he6
          clear g0 g1 g2 g3 g4 g5 g6 b0 b1 bf
          go_wp2_with (fail)
          exact ⟨⟨1, _, by omega, by go_num, h6⟩, by simp [intOf]⟩
      · exfalso; omega
    · obtain ⟨E, hE⟩ : ∃ E, Y - 1 = E := ⟨_, rfl⟩
      by_cases he : 1 ≤ Y - 1
      · obtain ⟨o1, ho1⟩ : ∃ o1, ordI R N (Y - 1) (a % 7) = o1 := ⟨_, rfl⟩
        have hB' := hB.out _ he
        rw [ho1] at hB'
        replace ho1 := Lib.hid ho1
        clear hE hB
        by_cases hq : o1 < 0
        · obtain ⟨o2, ho2⟩ : ∃ o2, ordI (Y - 1) (a % 7) Y (a % 7) = o2 := ⟨_, rfl⟩
          replace hB' := hB' hq
          rw [ho2] at hB'
          replace ho2 := Lib.hid ho2
          go_wp2_with (fail)
          refine (NL.call (hN.out.set hL hlow hne.out (Y - 1)) (fun W hW => order_any R N (Y - 1) (a % 7) W)).mono ?_
          rintro e w6 ⟨he6, h6⟩
          rw [ho1.out] at he6
          subst he6
          clear g0 g1 g2 g3 g4 g5 g6 b0 b1 bf
          have g0 := blkC (h6.bn.get 0 rfl) 0; have g1 := blkC (h6.bn.get 0 rfl) 1; have g2 := blkC (h6.bn.get 1 rfl) 0; have g3 := blkC (h6.bn.get 1 rfl) 1
          have b0 := blkC h6.at_ 0; have b1 := blkC h6.at_ 1
          go_wp2_with (fail)
          refine (NL.call h6 (fun W hW => order_any (Y - 1) (a % 7) Y (a % 7) W)).mono ?_
          rintro e w7 ⟨he7, h7⟩
          rw [ho2.out] at he7
          subst he7
          clear g0 g1 g2 g3 b0 b1
          have g0 := blkC (h7.bn.get 0 rfl) 0
          go_wp2_with (fail)
          exact ⟨⟨2, _, by omega, by go_num, h7⟩, by simp [intOf]⟩
        · clear hB'
          go_wp2_with (fail)
          refine (NL.call (hN.out.set hL hlow hne.out (Y - 1)) (fun W hW => order_any R N (Y - 1) (a % 7) W)).mono ?_
          rintro e w6 ⟨he6, h6⟩
          rw [ho1.out] at he6
          subst he6
          clear g0 g1 g2 g3 g4 g5 g6 b0 b1 bf
          go_wp2_with (fail)
          exact ⟨⟨2, _, by omega, by go_num, h6⟩, by simp [intOf]⟩
      · clear hE hB
        go_wp2_with (fail)
        exact ⟨⟨2, _, by omega, by go_num, hN.out.set hL hlow hne.out (Y - 1)⟩, by simp [intOf]⟩
    · obtain ⟨E, hE⟩ : ∃ E, Y - 2 = E := ⟨_, rfl⟩
      by_cases he : 1 ≤ Y - 2
      · obtain ⟨o1, ho1⟩ : ∃ o1, ordI R N (Y - 2) (a % 7) = o1 := ⟨_, rfl⟩
        have hB' := hB.out _ he
        rw [ho1] at hB'
        replace ho1 := Lib.hid ho1
        clear hE hB
        by_cases hq : o1 < 0
        · obtain ⟨o2, ho2⟩ : ∃ o2, ordI (Y - 2) (a % 7) Y (a % 7) = o2 := ⟨_, rfl⟩
          replace hB' := hB' hq
          rw [ho2] at hB'
          replace ho2 := Lib.hid ho2
          go_wp2_with (fail)
          refine (NL.call (hN.out.set hL hlow hne.out (Y - 2)) (fun W hW => order_any R N (Y - 2) (a % 7) W)).mono ?_
          rintro e w6 ⟨he6, h6⟩
          rw [ho1.out] at he6
          subst he6
          clear g0 g1 g2 g3 g4 g5 g6 b0 b1 bf
          have g0 := blkC (h6.bn.get 0 rfl) 0; have g1 := blkC (h6.bn.get 0 rfl) 1; have g2 := blkC (h6.bn.get 1 rfl) 0; have g3 := blkC (h6.bn.get 1 rfl) 1
          have b0 := blkC h6.at_ 0; have b1 := blkC h6.at_ 1
          go_wp2_with (fail)
          refine (NL.call h6 (fun W hW => order_any (Y - 2) (a % 7) Y (a % 7) W)).mono ?_
          rintro e w7 ⟨he7, h7⟩
          rw [ho2.out] at he7
          subst he7
          clear g0 g1 g2 g3 b0 b1
          have g0 := blkC (h7.bn.get 0 rfl) 0
          go_wp2_with (fail)
          exact ⟨⟨3, _, by omega, by go_num, h7⟩, by simp [intOf]⟩
        · clear hB'
          go_wp2_with (fail)
          refine (NL.call (hN.out.set hL hlow hne.out (Y - 2)) (fun W hW => order_any R N (Y - 2) (a % 7) W)).mono ?_
          rintro e w6 ⟨he6, h6⟩
          rw [ho1.out] at he6
          subst he6
          clear g0 g1 g2 g3 g4 g5 g6 b0 b1 bf
          go_wp2_with (fail)
          exact ⟨⟨3, _, by omega, by go_num, h6⟩, by simp [intOf]⟩
      · clear hE hB
        go_wp2_with (fail)
        exact ⟨⟨3, _, by omega, by go_num, hN.out.set hL hlow hne.out (Y - 2)⟩, by simp [intOf]⟩
    · go_wp2_with (fail)
      refine (NL.call hN.out (fun W hW => works_any W hW)).mono ?_
      rintro e w6 ⟨rfl, h6⟩
      go_wp2_with (fail)
      go_ret
      exact ⟨rfl, h6.bn.bel⟩
set_option maxHeartbeats 8000000 in
theorem next_other (r : Int) (hr : 0 ≤ r ∧ r ≤ 4294967295) (d : Int) (hd : 0 ≤ d ∧ d ≤ 255) (a : Int) (al : 0 ≤ a ∧ a ≤ 255) (b : Int) (bl : 0 ≤ b ∧ b ≤ 255) (o : Int) (ol : 0 ≤ o ∧ o ≤ 4294967295) (w : World) (hL : Ldr w) (R N : Int) (hA1 : Hid (mdR r = R)) (hA2 : Hid (mdN r d 7 = N)) (Y : Int) (Y1 : 1 ≤ Y) (Y2 : Y ≤ 1073741824) (R0 : 0 ≤ R) (R1 : R ≤ 1073741824) (N0 : 0 ≤ N) (N1 : N ≤ 6) (hy : Hid (nxt R N (a % 7) = (Y, a % 7, 0))) (hck : Hid (chkE Y (a % 7) 7 = 0)) (ho : Hid (ordI R N Y (a % 7) = -1)) (hB : Hid (∀ b, 1 ≤ b → ordI R N b (a % 7) < 0 → ¬ ordI b (a % 7) Y (a % 7) < 0)) (hpq : (a % 7 == b % 7) = false) (Z : Int) (hz : Hid (nxt R N (b % 7) = (Z, b % 7, 0))) : Calls Tryd.prog 6 #[.int .u32 r, .int .u8 d, .int .u8 a, .int .u8 b, .int .u32 o] w fun e w' => e = .returned (.bool true) ∧ Below w.heap.size w w' := by
  have p0 : 0 ≤ a % 7 := by omega
  have p7 : a % 7 < 7 := by omega
  have q0 : 0 ≤ b % 7 := by omega
  have q7 : b % 7 < 7 := by omega
  obtain ⟨al0, al1⟩ := al
  obtain ⟨bl0, bl1⟩ := bl
  obtain ⟨ol0, ol1⟩ := ol
  go_enter Tryd.func6, Tryd.ntmps6
  have h0 := Bn.new hL
  go_wp2_with (fail)
  refine (Bn.call h0 (fun W hW => made_any r d 7 hr hd (by omega) W)).mono ?_
  rintro e w1 ⟨he, h1⟩
  rw [hA1.out, hA2.out] at he
  subst he
  go_wp2_with (fail)
  refine (Bn.call (Bn.push h1 (w1.heap.size) #[.int .i64 (R), .int .i64 (N)] 23 (by simp)) (fun W hW => next_any R N (a % 7) W)).mono ?_
  rintro e w2 ⟨he, h2⟩
  rw [hy.out] at he
  subst he
  have c0_0 := blkC (h2.get 0 rfl) 0; have c0_1 := blkC (h2.get 0 rfl) 1; have x0 := blkX (h2.get 0 rfl)
  go_wp2_with (fail)
  refine (Bn.call (Bn.push h2 (w2.heap.size) #[.int .i64 (Y), .int .i64 (a % 7)] 23 (by simp)) (fun W hW => next_any R N (b % 7) W)).mono ?_
  rintro e w3 ⟨he, h3⟩
  rw [hz.out] at he
  subst he
  clear c0_0 c0_1 x0
  have c0_0 := blkC (h3.get 0 rfl) 0; have c0_1 := blkC (h3.get 0 rfl) 1; have x0 := blkX (h3.get 0 rfl); have c1_0 := blkC (h3.get 1 rfl) 0; have c1_1 := blkC (h3.get 1 rfl) 1; have x1 := blkX (h3.get 1 rfl)
  go_wp2_with (fail)
  refine (Bn.call (Bn.push h3 (w3.heap.size) #[.int .i64 (Z), .int .i64 (b % 7)] 23 (by simp)) (fun W hW => check_any Y (a % 7) 7 W)).mono ?_
  rintro e w4 ⟨he, h4⟩
  rw [hck.out] at he
  subst he
  clear c0_0 c0_1 x0 c1_0 c1_1 x1
  have c0_0 := blkC (h4.get 0 rfl) 0; have c0_1 := blkC (h4.get 0 rfl) 1; have x0 := blkX (h4.get 0 rfl); have c1_0 := blkC (h4.get 1 rfl) 0; have c1_1 := blkC (h4.get 1 rfl) 1; have x1 := blkX (h4.get 1 rfl); have c2_0 := blkC (h4.get 2 rfl) 0; have c2_1 := blkC (h4.get 2 rfl) 1; have x2 := blkX (h4.get 2 rfl)
  go_wp2_with (fail)
  refine (Bn.call h4 (fun W hW => order_any R N Y (a % 7) W)).mono ?_
  rintro e w5 ⟨he, h5⟩
  rw [ho.out] at he
  subst he
  clear c0_0 c0_1 x0 c1_0 c1_1 x1 c2_0 c2_1 x2
  have c0_0 := blkC (h5.get 0 rfl) 0; have c0_1 := blkC (h5.get 0 rfl) 1; have x0 := blkX (h5.get 0 rfl); have c1_0 := blkC (h5.get 1 rfl) 0; have c1_1 := blkC (h5.get 1 rfl) 1; have x1 := blkX (h5.get 1 rfl); have c2_0 := blkC (h5.get 2 rfl) 0; have c2_1 := blkC (h5.get 2 rfl) 1; have x2 := blkX (h5.get 2 rfl)
  go_wp2_with (fail)
  have l1 := h1.bel.size; have l2 := h2.bel.size
  have hN0 : NL w [(w1.heap.size, #[.int .i64 R, .int .i64 N], 23), (w2.heap.size, #[.int .i64 Y, .int .i64 (a % 7)], 23), (w5.heap.size + 1, #[.int .i64 (o % 1073741824 + 1), .int .i64 (Y - 1), .int .i64 (Y - 2)], 3)] w5.heap.size (o % 1073741824 + 1) (a % 7) _ := ⟨Bn.sub ((h5.push w5.heap.size #[.int .i64 (o % 1073741824 + 1), .int .i64 (a % 7)] 23 rfl).push (w5.heap.size + 1) #[.int .i64 (o % 1073741824 + 1), .int .i64 (Y - 1), .int .i64 (Y - 2)] 3 (by simp)) (by simp), (hpOld _ (by simp)).trans (hpNew _ _)⟩
  have hlow : w.heap.size ≤ w5.heap.size := h5.bel.size
  have hne : ∀ x ∈ ([(w1.heap.size, #[.int .i64 R, .int .i64 N], 23), (w2.heap.size, #[.int .i64 Y, .int .i64 (a % 7)], 23), (w5.heap.size + 1, #[.int .i64 (o % 1073741824 + 1), .int .i64 (Y - 1), .int .i64 (Y - 2)], 3)] : List (Nat × Array Value × TypeId)), x.1 ≠ w5.heap.size := by
    intro x hx
    simp only [List.mem_cons, List.not_mem_nil, or_false] at hx
    rcases hx with rfl | rfl | rfl <;> simp only <;> omega
  replace hne := Lib.hid hne
  replace hN0 := Lib.hid hN0
  clear h0 h1 h2 h3 h4 h5 c0_0 c0_1 c1_0 c1_1 c2_0 c2_1
  go_loopw [114] (fun i wr => ∃ (k : Nat) (v : Int), k ≤ 3 ∧ i = .int .i64 k ∧ NL w [(w1.heap.size, #[.int .i64 R, .int .i64 N], 23), (w2.heap.size, #[.int .i64 Y, .int .i64 (a % 7)], 23), (w5.heap.size + 1, #[.int .i64 (o % 1073741824 + 1), .int .i64 (Y - 1), .int .i64 (Y - 2)], 3)] w5.heap.size v (a % 7) wr) (fun i _ => 3 - (intOf i).toNat)
  case atStart => exact ⟨0, _, by omega, rfl, hN0.out⟩
  case round =>
    clear hN0
    obtain ⟨k, v, hk, rfl, hN⟩ := hrel
    have g0 := blkC (hN.bn.get 0 rfl) 0; have g1 := blkC (hN.bn.get 0 rfl) 1; have g2 := blkC (hN.bn.get 1 rfl) 0; have g3 := blkC (hN.bn.get 1 rfl) 1
    have g4 := blkC (hN.bn.get 2 rfl) 0; have g5 := blkC (hN.bn.get 2 rfl) 1; have g6 := blkC (hN.bn.get 2 rfl) 2
    have b0 := blkC hN.at_ 0; have b1 := blkC hN.at_ 1; have bf := blkF hN.at_
    have y0 := blkX (hN.bn.get 0 rfl); have y1 := blkX (hN.bn.get 1 rfl); have y2 := blkX (hN.bn.get 2 rfl); have y3 := blkX hN.at_
    have hkk : k = 0 ∨ k = 1 ∨ k = 2 ∨ k = 3 := by omega
    clear hk
    replace hN := Lib.hid hN
    rcases hkk with rfl | rfl | rfl | rfl
    · obtain ⟨E, hE⟩ : ∃ E, o % 1073741824 + 1 = E := ⟨_, rfl⟩
      by_cases he : 1 ≤ o % 1073741824 + 1
      · obtain ⟨o1, ho1⟩ : ∃ o1, ordI R N (o % 1073741824 + 1) (a % 7) = o1 := ⟨_, rfl⟩
        have hB' := hB.out _ he
        rw [ho1] at hB'
        replace ho1 := Lib.hid ho1
        clear hE hB
        by_cases hq : o1 < 0
        · obtain ⟨o2, ho2⟩ : ∃ o2, ordI (o % 1073741824 + 1) (a % 7) Y (a % 7) = o2 := ⟨_, rfl⟩
          replace hB' := hB' hq
          rw [ho2] at hB'
          replace ho2 := Lib.hid ho2
          go_wp2_with (fail)
          refine (NL.call (hN.out.set hL hlow hne.out (o % 1073741824 + 1)) (fun W hW => order_any R N (o % 1073741824 + 1) (a % 7) W)).mono ?_
          rintro e w6 ⟨he6, h6⟩
          rw [ho1.out] at he6
          subst he6
          clear g0 g1 g2 g3 g4 g5 g6 b0 b1 bf
          have g0 := blkC (h6.bn.get 0 rfl) 0; have g1 := blkC (h6.bn.get 0 rfl) 1; have g2 := blkC (h6.bn.get 1 rfl) 0; have g3 := blkC (h6.bn.get 1 rfl) 1
          have b0 := blkC h6.at_ 0; have b1 := blkC h6.at_ 1
          go_wp2_with (fail)
          refine (NL.call h6 (fun W hW => order_any (o % 1073741824 + 1) (a % 7) Y (a % 7) W)).mono ?_
          rintro e w7 ⟨he7, h7⟩
          rw [ho2.out] at he7
          subst he7
          clear g0 g1 g2 g3 b0 b1
          have g0 := blkC (h7.bn.get 0 rfl) 0
          go_wp2_with (fail)
          exact ⟨⟨1, _, by omega, by go_num, h7⟩, by simp [intOf]⟩
        · clear hB'
          go_wp2_with (fail)
          refine (NL.call (hN.out.set hL hlow hne.out (o % 1073741824 + 1)) (fun W hW => order_any R N (o % 1073741824 + 1) (a % 7) W)).mono ?_
          rintro e w6 ⟨he6, h6⟩
          rw [ho1.out] at he6
          subst he6
          clear g0 g1 g2 g3 g4 g5 g6 b0 b1 bf
          go_wp2_with (fail)
          exact ⟨⟨1, _, by omega, by go_num, h6⟩, by simp [intOf]⟩
      · exfalso; omega
    · obtain ⟨E, hE⟩ : ∃ E, Y - 1 = E := ⟨_, rfl⟩
      by_cases he : 1 ≤ Y - 1
      · obtain ⟨o1, ho1⟩ : ∃ o1, ordI R N (Y - 1) (a % 7) = o1 := ⟨_, rfl⟩
        have hB' := hB.out _ he
        rw [ho1] at hB'
        replace ho1 := Lib.hid ho1
        clear hE hB
        by_cases hq : o1 < 0
        · obtain ⟨o2, ho2⟩ : ∃ o2, ordI (Y - 1) (a % 7) Y (a % 7) = o2 := ⟨_, rfl⟩
          replace hB' := hB' hq
          rw [ho2] at hB'
          replace ho2 := Lib.hid ho2
          go_wp2_with (fail)
          refine (NL.call (hN.out.set hL hlow hne.out (Y - 1)) (fun W hW => order_any R N (Y - 1) (a % 7) W)).mono ?_
          rintro e w6 ⟨he6, h6⟩
          rw [ho1.out] at he6
          subst he6
          clear g0 g1 g2 g3 g4 g5 g6 b0 b1 bf
          have g0 := blkC (h6.bn.get 0 rfl) 0; have g1 := blkC (h6.bn.get 0 rfl) 1; have g2 := blkC (h6.bn.get 1 rfl) 0; have g3 := blkC (h6.bn.get 1 rfl) 1
          have b0 := blkC h6.at_ 0; have b1 := blkC h6.at_ 1
          go_wp2_with (fail)
          refine (NL.call h6 (fun W hW => order_any (Y - 1) (a % 7) Y (a % 7) W)).mono ?_
          rintro e w7 ⟨he7, h7⟩
          rw [ho2.out] at he7
          subst he7
          clear g0 g1 g2 g3 b0 b1
          have g0 := blkC (h7.bn.get 0 rfl) 0
          go_wp2_with (fail)
          exact ⟨⟨2, _, by omega, by go_num, h7⟩, by simp [intOf]⟩
        · clear hB'
          go_wp2_with (fail)
          refine (NL.call (hN.out.set hL hlow hne.out (Y - 1)) (fun W hW => order_any R N (Y - 1) (a % 7) W)).mono ?_
          rintro e w6 ⟨he6, h6⟩
          rw [ho1.out] at he6
          subst he6
          clear g0 g1 g2 g3 g4 g5 g6 b0 b1 bf
          go_wp2_with (fail)
          exact ⟨⟨2, _, by omega, by go_num, h6⟩, by simp [intOf]⟩
      · clear hE hB
        go_wp2_with (fail)
        exact ⟨⟨2, _, by omega, by go_num, hN.out.set hL hlow hne.out (Y - 1)⟩, by simp [intOf]⟩
    · obtain ⟨E, hE⟩ : ∃ E, Y - 2 = E := ⟨_, rfl⟩
      by_cases he : 1 ≤ Y - 2
      · obtain ⟨o1, ho1⟩ : ∃ o1, ordI R N (Y - 2) (a % 7) = o1 := ⟨_, rfl⟩
        have hB' := hB.out _ he
        rw [ho1] at hB'
        replace ho1 := Lib.hid ho1
        clear hE hB
        by_cases hq : o1 < 0
        · obtain ⟨o2, ho2⟩ : ∃ o2, ordI (Y - 2) (a % 7) Y (a % 7) = o2 := ⟨_, rfl⟩
          replace hB' := hB' hq
          rw [ho2] at hB'
          replace ho2 := Lib.hid ho2
          go_wp2_with (fail)
          refine (NL.call (hN.out.set hL hlow hne.out (Y - 2)) (fun W hW => order_any R N (Y - 2) (a % 7) W)).mono ?_
          rintro e w6 ⟨he6, h6⟩
          rw [ho1.out] at he6
          subst he6
          clear g0 g1 g2 g3 g4 g5 g6 b0 b1 bf
          have g0 := blkC (h6.bn.get 0 rfl) 0; have g1 := blkC (h6.bn.get 0 rfl) 1; have g2 := blkC (h6.bn.get 1 rfl) 0; have g3 := blkC (h6.bn.get 1 rfl) 1
          have b0 := blkC h6.at_ 0; have b1 := blkC h6.at_ 1
          go_wp2_with (fail)
          refine (NL.call h6 (fun W hW => order_any (Y - 2) (a % 7) Y (a % 7) W)).mono ?_
          rintro e w7 ⟨he7, h7⟩
          rw [ho2.out] at he7
          subst he7
          clear g0 g1 g2 g3 b0 b1
          have g0 := blkC (h7.bn.get 0 rfl) 0
          go_wp2_with (fail)
          exact ⟨⟨3, _, by omega, by go_num, h7⟩, by simp [intOf]⟩
        · clear hB'
          go_wp2_with (fail)
          refine (NL.call (hN.out.set hL hlow hne.out (Y - 2)) (fun W hW => order_any R N (Y - 2) (a % 7) W)).mono ?_
          rintro e w6 ⟨he6, h6⟩
          rw [ho1.out] at he6
          subst he6
          clear g0 g1 g2 g3 g4 g5 g6 b0 b1 bf
          go_wp2_with (fail)
          exact ⟨⟨3, _, by omega, by go_num, h6⟩, by simp [intOf]⟩
      · clear hE hB
        go_wp2_with (fail)
        exact ⟨⟨3, _, by omega, by go_num, hN.out.set hL hlow hne.out (Y - 2)⟩, by simp [intOf]⟩
    · go_wp2_with (fail)
      refine (NL.call hN.out (fun W hW => works_any W hW)).mono ?_
      rintro e w6 ⟨rfl, h6⟩
      go_wp2_with (fail)
      go_ret
      exact ⟨rfl, h6.bn.bel⟩
theorem next_walk (r : Int) (hr : 0 ≤ r ∧ r ≤ 4294967295) (d : Int) (hd : 0 ≤ d ∧ d ≤ 255) (a : Int) (al : 0 ≤ a ∧ a ≤ 255) (b : Int) (bl : 0 ≤ b ∧ b ≤ 255) (o : Int) (ol : 0 ≤ o ∧ o ≤ 4294967295) (w : World) (hL : Ldr w) : Calls Tryd.prog 6 #[.int .u32 r, .int .u8 d, .int .u8 a, .int .u8 b, .int .u32 o] w fun e w' => e = .returned (.bool true) ∧ Below w.heap.size w w' := by
  have hv := md_vld r d 7 hr.1 hd.1 (by omega)
  have hv' := (vld_iff _ _ _).1 hv
  rcases nxt_law hv (p := a % 7) (by omega) with ⟨h1, h2, h3⟩ | ⟨Y, h1, h2, h3, h4, h5, h6⟩
  · exact next_over r hr d hd a al b bl o ol w hL (mdN r d 7) h2 rfl h3 _ _ _ (by rw [← h2]; exact h1) rfl
  · rcases nxt_law hv (p := b % 7) (by omega) with ⟨g1, g2, g3⟩ | ⟨Z, g1, _⟩
    · exact next_none r hr d hd a al b bl o ol w hL _ _ rfl rfl Y h2 h3 (by omega) (by omega) (by omega) (by omega) h1 (chkE_ok h4) h5 h6 g1
    · by_cases hpq : b % 7 = a % 7
      · exact next_same r hr d hd a al b bl o ol w hL _ _ rfl rfl Y h2 h3 (by omega) (by omega) (by omega) (by omega) h1 (chkE_ok h4) h5 h6 hpq h1
      · exact next_other r hr d hd a al b bl o ol w hL _ _ rfl rfl Y h2 h3 (by omega) (by omega) (by omega) (by omega) h1 (chkE_ok h4) h5 h6 (by simp; omega) Z g1
end Go.Proofs.YtflpnokhcaepfaaDoor
