/- WireReads: the walk. -/
import Derived.Test.YtcapeefhbkgogaaSame
namespace Go.Proofs.Ytcapeefhbkgogaa
open Go.RowKit
set_option linter.unusedSimpArgs false
set_option linter.unusedVariables false
set_option linter.unusedSectionVars false
set_option maxRecDepth 10000
attribute [local go_sem ↓] hideClear
theorem u8_lt (x : UInt8) : x.toNat < 256 := x.toNat_lt
def nextAll (s : RS) (ks : List UInt8) : RS := ks.foldl (fun s k => nextS s k.toNat) s
theorem nextAll_take {s : RS} {ks : List UInt8} {i : Nat} {k : UInt8} (h : ks[i]? = some k) : nextAll s (ks.take (i + 1)) = nextS (nextAll s (ks.take i)) k.toNat := by
  obtain ⟨hi, rfl⟩ := List.getElem?_eq_some_iff.1 h
  rw [List.take_succ_eq_append_getElem hi]
  simp only [nextAll, List.foldl_append, List.foldl_cons, List.foldl_nil]
set_option maxHeartbeats 4000000 in
theorem reads_walk (A : Option Addr) (n c : Nat) (b : List UInt8) (A' : Option Addr) (n' c' : Nat) (ks : List UInt8) (w : World) (h : RB w A n b) (hn : n ≤ 140737488355328) (h' : RB w A' n' ks) (hn' : n' ≤ 140737488355328) :
    Calls Try.prog 4 #[.slice A n c, .slice A' n' c'] w fun e w' => e = .returned (.bool true) ∧ Below w.heap.size w w' := by
  by_cases hb1 : 100000 < n
  · go_enter Try.func4, Try.ntmps4
    have hi1 : (100000 : Int) < (n : Int) := by omega
    go_wp2_with (fail)
    refine (works_any _).mono ?_
    rintro e w2 ⟨rfl, b2⟩
    go_wp2_with (fail)
    go_ret
    exact ⟨rfl, b2⟩
  by_cases hb2 : 100 < n'
  · go_enter Try.func4, Try.ntmps4
    have hi1 : ¬ (100000 : Int) < (n : Int) := by omega
    have hi2 : (100 : Int) < (n' : Int) := by omega
    go_wp2_with (fail)
    refine (works_any _).mono ?_
    rintro e w2 ⟨rfl, b2⟩
    go_wp2_with (fail)
    go_ret
    exact ⟨rfl, b2⟩
  have hi1 : ¬ (100000 : Int) < (n : Int) := by omega
  have hi2 : ¬ (100 : Int) < (n' : Int) := by omega
  clear hb1 hb2
  have hlb := Lib.hid h.1
  have heq := Lib.hid (show (b == b) = true from beq_self_eq_true _)
  go_enter Try.func4, Try.ntmps4
  go_wp2_with (fail)
  refine (clone_any h c (by omega)).mono ?_
  rintro e w1 ⟨A1, c1, rfl, o1, b1⟩
  go_wp2_with (fail)
  refine (read_any (RB.of_own o1) (by omega)).mono ?_
  rintro e w2 ⟨g2, A2, c2, rfl, l2, i2, hr2, b2⟩
  have b02 := b1.trans (b2.mono b1.size)
  go_wp2_with (fail)
  refine (readR_any (h.below b02) (by omega)).mono ?_
  rintro e w3 ⟨g3, A3, c3, rfl, l3, i3, hr3, b3⟩
  have b03 := b02.trans (b3.mono b02.size)
  have hT : TwoR w.heap.size w w3 g2 A2 c2 g3 A3 c3 (some b) := ⟨i2.below b3, i3, Nat.le_trans b1.size l2, Nat.le_trans b02.size l3, b03⟩
  have o3 := (RB.of_own o1).below b2 |>.below b3
  go_wp2_with (fail)
  refine (equal_any o3 (h.below b03) _ _).mono ?_
  rintro e w4 ⟨he, rfl⟩
  rw [heq.out] at he
  subst he
  go_wp2_with (fail)
  refine (left_p hT.a).mono ?_
  rintro e w4 ⟨rfl, rfl⟩
  go_wp2_with (fail)
  refine (rleft_p hT.b).mono ?_
  rintro e w4 ⟨rfl, rfl⟩
  go_wp2_with (fail)
  refine (end_p hT.a).mono ?_
  rintro e w4 ⟨rfl, rfl⟩
  go_wp2_with (fail)
  refine (rend_p hT.b).mono ?_
  rintro e w4 ⟨rfl, rfl⟩
  have o4 : w3.ownsRow 0 5 1 (.slice A1 n c1) n (bvs b) := by
    refine ⟨o1.1, ?_⟩
    rcases o1.2 with e | ⟨k, cp, cur, e, _, hh, rest⟩
    · exact .inl e
    · exact .inr ⟨k, cp, cur, e, Nat.zero_le _, ((b2.trans (b3.mono b2.size)).block k (blkX hh)).trans hh, rest⟩
  have hrow : ∀ k, rowOf A1 = some k → w.heap.size ≤ k ∧ k < w1.heap.size := fun k hk => o1.lt k (by rw [own_rowOf]; exact hk)
  obtain ⟨w5, hrun, hch⟩ := run_clear o4 0
  have hT5 : TwoR w.heap.size w w5 g2 A2 c2 g3 A3 c3 (some b) := by
    have q2 := b2.size
    refine ⟨hT.a.keep hch ?_ ?_, hT.b.keep hch ?_ ?_, hT.la, hT.lb, Chg.belowAfter b03 hch b03.size ?_⟩
    · intro e; have := (hrow _ e).2; omega
    · intro k hk e; have := (hrow _ e).2; have := hr2 k hk; omega
    · intro e; have := (hrow _ e).2; omega
    · intro k hk e; have := (hrow _ e).2; have := hr3 k hk; omega
    · intro k hk e; have := (hrow _ e).1; omega
  clear o4 hch hT b03 o3 b02 b1 b2 b3 i2 i3 o1 l2 l3
  go_wp2_with (fail)
  go_loopw [46] (fun i wr => ∃ k : Nat, k ≤ n' ∧ i = .int .i64 k ∧ TwoRTo w.heap.size w g2 g3 (nextAll (some b) (ks.take k)) wr) (fun i _ => n' - (intOf i).toNat)
  case atStart => exact ⟨0, by omega, rfl, A2, c2, A3, c3, hT5⟩
  case round =>
    obtain ⟨k, hk, rfl, B1, d1, B2, d2, hT⟩ := hrel
    clear hT5 hrun
    by_cases hlt : k < n'
    · obtain ⟨ad, x, rfl, hx, hc⟩ := (h'.keep (w' := wr) hT.below.size fun j hj _ => hT.below.block j hj).at_ hlt
      have htk := Lib.hid (nextAll_take (s := some b) hx)
      replace hx := Lib.hid hx
      go_wp2_with (fail)
      refine (same_any hT hT.below.size x.toNat (u8_lt x)).mono ?_
      rintro e w6 ⟨rfl, hT6⟩
      rw [← htk.out] at hT6
      clear hT hc
      go_wp2_with (fail)
      go_roundw
      case rel => exact ⟨k + 1, by omega, by go_num, hT6⟩
      case measure => simp [intOf]; omega
    · go_wp2_with (fail)
      refine (works_any _).mono ?_
      rintro e w6 ⟨rfl, b6⟩
      go_wp2_with (fail)
      go_ret
      exact ⟨rfl, hT.below.trans (b6.mono hT.below.size)⟩
end Go.Proofs.Ytcapeefhbkgogaa
