/- WireNil: the walk. -/
import Derived.Test.YtcapeefhbkgogaaNils
import Derived.Test.YtcapeefhbkgogaaFew
namespace Go.Proofs.Ytcapeefhbkgogaa
open Go.RowKit
set_option linter.unusedSimpArgs false
set_option linter.unusedVariables false
set_option linter.unusedSectionVars false
set_option maxRecDepth 10000
theorem wrap64_in' (n : Int) : -9223372036854775808 ≤ wrap64 n ∧ wrap64 n ≤ 9223372036854775807 := by unfold wrap64; omega
def NilRel (v : VV) (w : World) (wr : World) : Prop :=
  Below w.heap.size w wr ∧ wr.heap[w.heap.size]? = some (.cells #[.int .u8 v.k, .int .u64 v.n, .string v.s] 31 (0, 0)) ∧ wr.heap[w.heap.size + 1]? = some (.cells #[.bool false, .slice none 0 0] 46 (0, 0)) ∧
    wr.heap[w.heap.size + 2]? = some (.cells #[.pointer none, .pointer (some ⟨w.heap.size + 1, 0, none⟩)] 25 (0, 0))
theorem NilRel.below {v : VV} {w W W' : World} (h : NilRel v w W) (hb : Below W.heap.size W W') : NilRel v w W' := by
  obtain ⟨b0, x0, x1, x2⟩ := h
  exact ⟨b0.trans (hb.mono b0.size), (hb.block _ (blkX x0)).trans x0, (hb.block _ (blkX x1)).trans x1, (hb.block _ (blkX x2)).trans x2⟩
theorem NilRel.facts {v : VV} {w W : World} (h : NilRel v w W) : W.cell? ⟨w.heap.size, 1, none⟩ = some (.int .u64 v.n) ∧ W.cell? ⟨w.heap.size, 2, none⟩ = some (.string v.s) ∧ W.cell? ⟨w.heap.size + 2, 0, none⟩ = some (.pointer none) ∧
    W.cell? ⟨w.heap.size + 2, 1, none⟩ = some (.pointer (some ⟨w.heap.size + 1, 0, none⟩)) :=
  ⟨blkC h.2.1 1, blkC h.2.1 2, blkC h.2.2.2 0, blkC h.2.2.2 1⟩
def NilRel2 (v : VV) (w : World) (g : Nat) (b : Bool) (W : World) : Prop :=
  Below w.heap.size w W ∧ w.heap.size ≤ g ∧ W.heap[g]? = some (.cells #[.bool false, .bool b, .slice none 0 0] 53 (0, 0)) ∧ W.heap[g + 1]? = some (.cells #[.pointer none, .pointer (some ⟨g, 0, none⟩)] 38 (0, 0))
theorem NilRel2.below {v : VV} {w W W' : World} {g : Nat} {b : Bool} (h : NilRel2 v w g b W) (hb : Below W.heap.size W W') : NilRel2 v w g b W' := by
  obtain ⟨b0, l0, x0, x1⟩ := h
  exact ⟨b0.trans (hb.mono b0.size), l0, (hb.block _ (blkX x0)).trans x0, (hb.block _ (blkX x1)).trans x1⟩
theorem NilRel2.facts {v : VV} {w W : World} {g : Nat} {b : Bool} (h : NilRel2 v w g b W) : W.cell? ⟨g + 1, 0, none⟩ = some (.pointer none) ∧ W.cell? ⟨g + 1, 1, none⟩ = some (.pointer (some ⟨g, 0, none⟩)) := ⟨blkC h.2.2.2 0, blkC h.2.2.2 1⟩
set_option maxHeartbeats 8000000 in
theorem nil_walk (v : VV) (hv : v.Ok) (w : World) :
    Calls Try.prog 5 #[.agg #[.int .u8 v.k, .int .u64 v.n, .string v.s]] w fun e w' => e = .returned (.bool true) ∧ Below w.heap.size w w' := by
  have hs := hv.s
  have hn := hv.n
  by_cases hb : 1000 < v.s.size
  · have hbi : (1000 : Int) < (v.s.size : Int) := by omega
    go_enter Try.func5, Try.ntmps5
    go_wp2_with (go_at_call 13; refine (works_any _).mono ?_; rintro e w2 ⟨rfl, b2⟩)
    go_ret
    exact ⟨rfl, ((Below.refl _ w).alloc (Nat.le_refl _) _).trans (b2.mono (by simp))⟩
  have hbi : ¬ (1000 : Int) < (v.s.size : Int) := by omega
  go_enter Try.func5, Try.ntmps5
  go_wp2_with (fail)
  have hr0 : NilRel v w (((w.alloc (.cells #[.int .u8 v.k, .int .u64 v.n, .string v.s] 31)).alloc (.cells #[.bool false, .slice none 0 0] 46)).alloc (.cells #[.pointer none, .pointer (some ⟨w.heap.size + 1, 0, none⟩)] 25)) := by
    refine ⟨(((Below.refl _ w).alloc (Nat.le_refl _) _).alloc (by simp) _).alloc (by simp; omega) _, ?_, ?_, ?_⟩
    · exact (hpOld _ (by simp; omega)).trans ((hpOld _ (by simp)).trans (hpNew w _))
    · exact (hpOld _ (by simp)).trans (hpNewAt _ (by simp))
    · exact hpNewAt _ (by simp)
  go_loopw [19] (fun i wr => ∃ k : Nat, k ≤ 2 ∧ i = .int .i64 k ∧ NilRel v w wr) (fun i _ => 2 - (intOf i).toNat)
  case atStart => exact ⟨0, by omega, rfl, hr0⟩
  case round =>
    obtain ⟨k, hk, rfl, n0⟩ := hrel
    obtain ⟨a0, c0, d0, e0⟩ := n0.facts
    have hk2 : k = 0 ∨ k = 1 ∨ k = 2 := by omega
    rcases hk2 with rfl | rfl | rfl
    · go_wp2_with (fail)
      refine (wUint_nil _ _).mono ?_
      rintro e w1 ⟨rfl, b1⟩
      have n1 := n0.below b1
      obtain ⟨a1, c1, d1, e1⟩ := n1.facts
      go_wp2_with (fail)
      refine (wInt_nil (wrap64 v.n) (wrap64_in' _).1 (wrap64_in' _).2 _).mono ?_
      rintro e w2 ⟨rfl, b2⟩
      have n2 := n1.below b2
      obtain ⟨a2, c2, d2, e2⟩ := n2.facts
      go_wp2_with (fail)
      refine (wText_nil v.s (by omega) _).mono ?_
      rintro e w3 ⟨rfl, b3⟩
      have n3 := n2.below b3
      obtain ⟨a3, c3, d3, e3⟩ := n3.facts
      go_wp2_with (fail)
      refine (wBool_nil _).mono ?_
      rintro e w4 ⟨rfl, b4⟩
      have n4 := n3.below b4
      obtain ⟨a4, c4, d4, e4⟩ := n4.facts
      go_wp2_with (fail)
      refine (wBytes_nil _).mono ?_
      rintro e w5 ⟨rfl, b5⟩
      have n5 := n4.below b5
      obtain ⟨a5, c5, d5, e5⟩ := n5.facts
      go_wp2_with (fail)
      refine (wLen_nil _).mono ?_
      rintro e w6 ⟨rfl, b6⟩
      have n6 := n5.below b6
      obtain ⟨a6, c6, d6, e6⟩ := n6.facts
      go_wp2_with (fail)
      go_roundw
      case rel => exact ⟨1, by omega, rfl, n6⟩
      case measure => simp [intOf]
    · go_wp2_with (fail)
      refine (wUint_zero _ _ _ n0.2.2.1).mono ?_
      rintro e w1 ⟨rfl, b1⟩
      have n1 := n0.below b1
      obtain ⟨a1, c1, d1, e1⟩ := n1.facts
      go_wp2_with (fail)
      refine (wInt_zero (wrap64 v.n) (wrap64_in' _).1 (wrap64_in' _).2 _ _ n1.2.2.1).mono ?_
      rintro e w2 ⟨rfl, b2⟩
      have n2 := n1.below b2
      obtain ⟨a2, c2, d2, e2⟩ := n2.facts
      go_wp2_with (fail)
      refine (wText_zero v.s (by omega) _ _ n2.2.2.1).mono ?_
      rintro e w3 ⟨rfl, b3⟩
      have n3 := n2.below b3
      obtain ⟨a3, c3, d3, e3⟩ := n3.facts
      go_wp2_with (fail)
      refine (wBool_zero _ _ n3.2.2.1).mono ?_
      rintro e w4 ⟨rfl, b4⟩
      have n4 := n3.below b4
      obtain ⟨a4, c4, d4, e4⟩ := n4.facts
      go_wp2_with (fail)
      refine (wBytes_zero _ _ n4.2.2.1).mono ?_
      rintro e w5 ⟨rfl, b5⟩
      have n5 := n4.below b5
      obtain ⟨a5, c5, d5, e5⟩ := n5.facts
      go_wp2_with (fail)
      refine (wLen_zero _ _ n5.2.2.1).mono ?_
      rintro e w6 ⟨rfl, b6⟩
      have n6 := n5.below b6
      obtain ⟨a6, c6, d6, e6⟩ := n6.facts
      go_wp2_with (fail)
      go_roundw
      case rel => exact ⟨2, by omega, rfl, n6⟩
      case measure => simp [intOf]
    · obtain ⟨wo, rfl⟩ : ∃ wo : World, wo = wr := ⟨_, rfl⟩
      have b0 := n0.1
      clear a0 c0 d0 e0 n0 hr0
      go_wp2_with (fail)
      have hr2 : NilRel2 v w wo.heap.size false ((wo.alloc (.cells #[.bool false, .bool false, .slice none 0 0] 53)).alloc (.cells #[.pointer none, .pointer (some ⟨wo.heap.size, 0, none⟩)] 38)) := by
        refine ⟨(b0.alloc b0.size _).alloc (by simp; exact Nat.le_succ_of_le b0.size) _, b0.size, ?_, ?_⟩
        · exact (hpOld _ (by simp)).trans (hpNew wo _)
        · exact hpNewAt _ (by simp)
      go_loopw [53] (fun i wr => ∃ (k : Nat) (b : Bool), k ≤ 2 ∧ i = .int .i64 k ∧ NilRel2 v w wo.heap.size b wr) (fun i _ => 2 - (intOf i).toNat)
      case atStart => exact ⟨0, false, by omega, rfl, hr2⟩
      case round =>
        obtain ⟨k, b, hk, rfl, n0⟩ := hrel
        obtain ⟨a0, c0⟩ := n0.facts
        have hk2 : k = 0 ∨ k = 1 ∨ k = 2 := by omega
        rcases hk2 with rfl | rfl | rfl
        · go_wp2_with (fail)
          refine (rFail_nil _).mono ?_
          rintro e w0 ⟨rfl, bb⟩
          replace n0 := n0.below bb
          obtain ⟨a0, c0⟩ := n0.facts
          go_wp2_with (fail)
          refine (rdUint_nil _).mono ?_
          rintro e w1 ⟨rfl, b1⟩
          have n1 := n0.below b1
          obtain ⟨a1, c1⟩ := n1.facts
          go_wp2_with (fail)
          refine (rdInt_nil _).mono ?_
          rintro e w2 ⟨rfl, b2⟩
          have n2 := n1.below b2
          obtain ⟨a2, c2⟩ := n2.facts
          go_wp2_with (fail)
          refine (rdText_nil _).mono ?_
          rintro e w3 ⟨rfl, b3⟩
          have n3 := n2.below b3
          obtain ⟨a3, c3⟩ := n3.facts
          go_wp2_with (fail)
          refine (rdBool_nil _).mono ?_
          rintro e w4 ⟨rfl, b4⟩
          have n4 := n3.below b4
          obtain ⟨a4, c4⟩ := n4.facts
          go_wp2_with (fail)
          refine (rLeft_nil _).mono ?_
          rintro e w5 ⟨rfl, b5⟩
          have n5 := n4.below b5
          obtain ⟨a5, c5⟩ := n5.facts
          go_wp2_with (fail)
          refine (rEnd_nil _).mono ?_
          rintro e w6 ⟨rfl, b6⟩
          have n6 := n5.below b6
          obtain ⟨a6, c6⟩ := n6.facts
          go_wp2_with (fail)
          go_roundw
          case rel =>
            (repeat apply Exists.intro)
            exact ⟨⟨1, _, by omega, rfl, n6⟩, rfl⟩
          case measure => simp [intOf]
        · go_wp2_with (fail)
          refine (rFail_zero _ _ b n0.2.2.1).mono ?_
          rintro e w0 ⟨rfl, hb0, ch⟩
          replace n0 : NilRel2 v w wo.heap.size true w0 := ⟨Chg.belowAfter n0.1 ch n0.1.size (by rintro k hk rfl; have := n0.2.1; omega), n0.2.1, hb0, (ch.block _ (blkX n0.2.2.2) (by omega)).trans n0.2.2.2⟩
          obtain ⟨a0, c0⟩ := n0.facts
          go_wp2_with (fail)
          refine (rdUint_zero _ _ true n0.2.2.1).mono ?_
          rintro e w1 ⟨rfl, b1⟩
          have n1 := n0.below b1
          obtain ⟨a1, c1⟩ := n1.facts
          go_wp2_with (fail)
          refine (rdInt_zero _ _ true n1.2.2.1).mono ?_
          rintro e w2 ⟨rfl, b2⟩
          have n2 := n1.below b2
          obtain ⟨a2, c2⟩ := n2.facts
          go_wp2_with (fail)
          refine (rdText_zero _ _ true n2.2.2.1).mono ?_
          rintro e w3 ⟨rfl, b3⟩
          have n3 := n2.below b3
          obtain ⟨a3, c3⟩ := n3.facts
          go_wp2_with (fail)
          refine (rdBool_zero _ _ true n3.2.2.1).mono ?_
          rintro e w4 ⟨rfl, b4⟩
          have n4 := n3.below b4
          obtain ⟨a4, c4⟩ := n4.facts
          go_wp2_with (fail)
          refine (rLeft_zero _ _ true n4.2.2.1).mono ?_
          rintro e w5 ⟨rfl, b5⟩
          have n5 := n4.below b5
          obtain ⟨a5, c5⟩ := n5.facts
          go_wp2_with (fail)
          refine (rEnd_zero _ _ true n5.2.2.1).mono ?_
          rintro e w6 ⟨rfl, b6⟩
          have n6 := n5.below b6
          obtain ⟨a6, c6⟩ := n6.facts
          go_wp2_with (fail)
          go_roundw
          case rel =>
            (repeat apply Exists.intro)
            exact ⟨⟨2, _, by omega, rfl, n6⟩, rfl⟩
          case measure => simp [intOf]
        · go_wp2_with (fail)
          refine (works_any _).mono ?_
          rintro e w6 ⟨rfl, b6⟩
          go_wp2_with (fail)
          go_ret
          exact ⟨rfl, n0.1.trans (b6.mono n0.1.size)⟩
end Go.Proofs.Ytcapeefhbkgogaa
