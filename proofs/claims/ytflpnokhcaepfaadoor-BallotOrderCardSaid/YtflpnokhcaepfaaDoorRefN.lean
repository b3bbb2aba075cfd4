/- The reference's Next. -/
import Derived.Test.YtflpnokhcaepfaaDoorNext
namespace Go.Proofs.YtflpnokhcaepfaaDoor
open Go.RowKit
set_option linter.unusedSimpArgs false
set_option linter.unusedVariables false
set_option linter.unusedSectionVars false
set_option maxRecDepth 10000
set_option maxHeartbeats 2000000 in
theorem rnext_no (r n p : Int) (w : World) (h : vld r n 7 = false ∨ p < 0 ∨ 7 ≤ p) : Calls Tryd.prog 13 #[.agg #[.int .i64 r, .int .i64 n], .int .i64 p] w fun e w' => e = .returned (.tuple #[.agg #[.int .i64 0, .int .i64 0], .int .i64 2]) ∧ Below w.heap.size w w' := by
  have hc : vld r n 7 = false ∨ (vld r n 7 = true ∧ p < 0) ∨ (vld r n 7 = true ∧ 0 ≤ p ∧ 7 ≤ p) := by
    rcases Bool.eq_false_or_eq_true (vld r n 7) with hv | hv
    · rcases h with h | h | h
      · rw [hv] at h; cases h
      · exact .inr (.inl ⟨hv, h⟩)
      · exact .inr (.inr ⟨hv, by omega, h⟩)
    · exact .inl hv
  clear h
  rcases hc with hv | ⟨hv, hp⟩ | ⟨hv, hp, hq⟩
  all_goals
    first | (have hck := Lib.hid (chkE_bad hv)) | (have hck := Lib.hid (chkE_ok hv))
    clear hv
    go_enter Tryd.func13, Tryd.ntmps13
    go_wp2_with (fail)
    refine (rcheck_any r n 7 _).mono ?_
    rintro e w1 ⟨he, b1⟩
    rw [hck.out] at he
    subst he
    have g1 := (b1.block (w.heap.size + 1) (by simp)).trans (hpNewAt _ (by simp))
    have c0 := blkC g1 0; have c1 := blkC g1 1; have f1 := blkF g1
    have hb := Lib.hid ((((Below.refl _ w).alloc (Nat.le_refl _) (.cells #[.int .i64 r, .int .i64 n] 23)).alloc (by simp) (.cells #[.int .i64 0, .int .i64 0] 23)).trans (b1.mono (by simp; omega)))
    clear g1 b1
    go_wp2_with (fail)
    refine bodyPost_ret (by simp [results, Tryd.results13, go_sem, *]; try with_reducible rfl) rfl ?_
    exact ⟨rfl, by have hq := hb.out; repeat (first | exact hq | (refine Below.setCell ?_ (by simp) _))⟩
/-- What the loop keeps. -/
def NR (w : World) (r n : Int) (W : World) : Prop := Below w.heap.size w W ∧ W.heap[w.heap.size]? = some (.cells #[.int .i64 r, .int .i64 n] 23 (0, 0)) ∧ W.heap[w.heap.size + 1]? = some (.cells #[.int .i64 0, .int .i64 0] 23 (0, 0))
theorem NR.below {w W W' : World} {r n : Int} (h : NR w r n W) (hb : Below W.heap.size W W') : NR w r n W' :=
  ⟨h.1.trans (hb.mono h.1.size), (hb.block _ (blkX h.2.1)).trans h.2.1, (hb.block _ (blkX h.2.2)).trans h.2.2⟩
set_option maxHeartbeats 4000000 in
theorem rnext_zero (p : Int) (w : World) (hck : Hid (chkE 0 0 7 = 0)) (p0 : 0 ≤ p) (p7 : p < 7)  : Calls Tryd.prog 13 #[.agg #[.int .i64 0, .int .i64 0], .int .i64 p] w fun e w' => e = .returned (.tuple #[.agg #[.int .i64 (1), .int .i64 (p)], .int .i64 0]) ∧ Below w.heap.size w w' := by
  have ho := Lib.hid (show ordI 0 0 1 p = -1 from rfl)
  go_enter Tryd.func13, Tryd.ntmps13
  go_wp2_with (fail)
  refine (rcheck_any 0 0 7 _).mono ?_
  rintro e w1 ⟨he, b1⟩
  rw [hck.out] at he
  subst he
  have hN : NR w 0 0 w1 := ⟨(((Below.refl _ w).alloc (Nat.le_refl _) (.cells #[.int .i64 0, .int .i64 0] 23)).alloc (by simp) (.cells #[.int .i64 0, .int .i64 0] 23)).trans (b1.mono (by simp; omega)), (b1.block (w.heap.size) (by simp; omega)).trans ((hpOld _ (by simp)).trans (hpNew _ _)), (b1.block (w.heap.size + 1) (by simp)).trans (hpNewAt _ (by simp))⟩
  have c0 := blkC hN.2.1 0; have c1 := blkC hN.2.1 1
  have hN0 := Lib.hid hN
  clear hN b1 hck
  go_wp2_with (fail)
  go_loopw [6] (fun i wr => ∃ k : Nat, k ≤ 1 ∧ i = .int .i64 (0 + k) ∧ NR w 0 0 wr) (fun i _ => (2 - (intOf i - 0)).toNat)
  case atStart => exact ⟨0, by omega, by simp, hN0.out⟩
  case round =>
    clear hN0 c0 c1
    obtain ⟨k, hk, rfl, hN⟩ := hrel
    have c0 := blkC hN.2.1 0; have c1 := blkC hN.2.1 1; have c2 := blkC hN.2.2 0; have c3 := blkC hN.2.2 1; have c4 := blkF hN.2.2; have cx := blkX hN.2.1; have cy := blkX hN.2.2
    replace hN := Lib.hid hN
    have hkk : k = 0 ∨ k = 1 := by omega
    clear hk
    rcases hkk with rfl | rfl
    · skip
      go_wp2_with (fail)
      exact ⟨⟨1, by omega, by go_num, hN.out.below ((Below.refl _ wr).alloc (Nat.le_refl _) _)⟩, by simp [intOf]⟩
    · skip
      go_wp2_with (fail)
      refine (rorder_any _ _ _ _ _).mono ?_
      rintro e w2 ⟨he, b2⟩
      rw [ho.out] at he
      subst he
      have hq := hN.out.below (((Below.refl _ wr).alloc (Nat.le_refl _) (.cells #[.int .i64 _, .int .i64 p] 23)).trans (b2.mono (by simp)))
      have hx := (b2.block (wr.heap.size) (by simp)).trans (hpNew _ _)
      have y0 := blkC hx 0; have y1 := blkC hx 1
      have g0 := blkC hq.2.2 0; have g1 := blkC hq.2.2 1; have gf := blkF hq.2.2
      have d0 := blkC hq.2.1 0; have d1 := blkC hq.2.1 1
      replace hq := Lib.hid hq
      clear hx b2 hN c0 c1 c2 c3 c4
      go_wp2_with (fail)
      refine bodyPost_ret (by simp [results, Tryd.results13, go_sem, *]; try with_reducible rfl) rfl ?_
      exact ⟨by simp, by have hz := hq.out.1; repeat (first | exact hz | (refine Below.setCell ?_ (by simp) _))⟩
set_option maxHeartbeats 4000000 in
theorem rnext_up (r n p : Int) (w : World) (hck : Hid (chkE r n 7 = 0)) (p0 : 0 ≤ p) (p7 : p < 7) (h1 : 1 ≤ r) (h2 : p ≤ n) (h3 : r + 1 ≤ 1073741824) : Calls Tryd.prog 13 #[.agg #[.int .i64 r, .int .i64 n], .int .i64 p] w fun e w' => e = .returned (.tuple #[.agg #[.int .i64 (r + 1), .int .i64 (p)], .int .i64 0]) ∧ Below w.heap.size w w' := by
  have hg := Lib.hid (show ordI r n r p = cmpI n p from by unfold ordI; rw [if_pos rfl])
  have hcp : 0 ≤ cmpI n p := by unfold cmpI; rw [if_neg (by omega)]; split <;> omega
  have hu := Lib.hid (show ordI r n (r + 1) p = -1 from by unfold ordI cmpI; rw [if_neg (by omega), if_pos (by omega)])
  go_enter Tryd.func13, Tryd.ntmps13
  go_wp2_with (fail)
  refine (rcheck_any r n 7 _).mono ?_
  rintro e w1 ⟨he, b1⟩
  rw [hck.out] at he
  subst he
  have hN : NR w r n w1 := ⟨(((Below.refl _ w).alloc (Nat.le_refl _) (.cells #[.int .i64 r, .int .i64 n] 23)).alloc (by simp) (.cells #[.int .i64 0, .int .i64 0] 23)).trans (b1.mono (by simp; omega)), (b1.block (w.heap.size) (by simp; omega)).trans ((hpOld _ (by simp)).trans (hpNew _ _)), (b1.block (w.heap.size + 1) (by simp)).trans (hpNewAt _ (by simp))⟩
  have c0 := blkC hN.2.1 0; have c1 := blkC hN.2.1 1
  have hN0 := Lib.hid hN
  clear hN b1 hck
  go_wp2_with (fail)
  go_loopw [6] (fun i wr => ∃ k : Nat, k ≤ 1 ∧ i = .int .i64 (r + k) ∧ NR w r n wr) (fun i _ => (2 - (intOf i - r)).toNat)
  case atStart => exact ⟨0, by omega, by simp, hN0.out⟩
  case round =>
    clear hN0 c0 c1
    obtain ⟨k, hk, rfl, hN⟩ := hrel
    have c0 := blkC hN.2.1 0; have c1 := blkC hN.2.1 1; have c2 := blkC hN.2.2 0; have c3 := blkC hN.2.2 1; have c4 := blkF hN.2.2; have cx := blkX hN.2.1; have cy := blkX hN.2.2
    replace hN := Lib.hid hN
    have hkk : k = 0 ∨ k = 1 := by omega
    clear hk
    rcases hkk with rfl | rfl
    · skip
      go_wp2_with (fail)
      refine (rorder_any _ _ _ _ _).mono ?_
      rintro e w2 ⟨he, b2⟩
      rw [hg.out] at he
      subst he
      have hq := hN.out.below (((Below.refl _ wr).alloc (Nat.le_refl _) (.cells #[.int .i64 _, .int .i64 p] 23)).trans (b2.mono (by simp)))
      have hx := (b2.block (wr.heap.size) (by simp)).trans (hpNew _ _)
      have y0 := blkC hx 0; have y1 := blkC hx 1
      have g0 := blkC hq.2.2 0; have g1 := blkC hq.2.2 1; have gf := blkF hq.2.2
      have d0 := blkC hq.2.1 0; have d1 := blkC hq.2.1 1
      replace hq := Lib.hid hq
      clear hx b2 hN c0 c1 c2 c3 c4
      go_wp2_with (fail)
      exact ⟨⟨1, by omega, by go_num, hq.out⟩, by simp [intOf]; omega⟩
    · skip
      go_wp2_with (fail)
      refine (rorder_any _ _ _ _ _).mono ?_
      rintro e w2 ⟨he, b2⟩
      rw [hu.out] at he
      subst he
      have hq := hN.out.below (((Below.refl _ wr).alloc (Nat.le_refl _) (.cells #[.int .i64 _, .int .i64 p] 23)).trans (b2.mono (by simp)))
      have hx := (b2.block (wr.heap.size) (by simp)).trans (hpNew _ _)
      have y0 := blkC hx 0; have y1 := blkC hx 1
      have g0 := blkC hq.2.2 0; have g1 := blkC hq.2.2 1; have gf := blkF hq.2.2
      have d0 := blkC hq.2.1 0; have d1 := blkC hq.2.1 1
      replace hq := Lib.hid hq
      clear hx b2 hN c0 c1 c2 c3 c4
      go_wp2_with (fail)
      refine bodyPost_ret (by simp [results, Tryd.results13, go_sem, *]; try with_reducible rfl) rfl ?_
      exact ⟨by simp, by have hz := hq.out.1; repeat (first | exact hz | (refine Below.setCell ?_ (by simp) _))⟩
set_option maxHeartbeats 4000000 in
theorem rnext_over (r n p : Int) (w : World) (hck : Hid (chkE r n 7 = 0)) (p0 : 0 ≤ p) (p7 : p < 7) (h1 : 1 ≤ r) (h2 : p ≤ n) (h3 : 1073741824 < r + 1) (h4 : r ≤ 1073741824) : Calls Tryd.prog 13 #[.agg #[.int .i64 r, .int .i64 n], .int .i64 p] w fun e w' => e = .returned (.tuple #[.agg #[.int .i64 (0), .int .i64 (0)], .int .i64 7]) ∧ Below w.heap.size w w' := by
  have hg := Lib.hid (show ordI r n r p = cmpI n p from by unfold ordI; rw [if_pos rfl])
  have hcp : 0 ≤ cmpI n p := by unfold cmpI; rw [if_neg (by omega)]; split <;> omega
  go_enter Tryd.func13, Tryd.ntmps13
  go_wp2_with (fail)
  refine (rcheck_any r n 7 _).mono ?_
  rintro e w1 ⟨he, b1⟩
  rw [hck.out] at he
  subst he
  have hN : NR w r n w1 := ⟨(((Below.refl _ w).alloc (Nat.le_refl _) (.cells #[.int .i64 r, .int .i64 n] 23)).alloc (by simp) (.cells #[.int .i64 0, .int .i64 0] 23)).trans (b1.mono (by simp; omega)), (b1.block (w.heap.size) (by simp; omega)).trans ((hpOld _ (by simp)).trans (hpNew _ _)), (b1.block (w.heap.size + 1) (by simp)).trans (hpNewAt _ (by simp))⟩
  have c0 := blkC hN.2.1 0; have c1 := blkC hN.2.1 1
  have hN0 := Lib.hid hN
  clear hN b1 hck
  go_wp2_with (fail)
  go_loopw [6] (fun i wr => ∃ k : Nat, k ≤ 1 ∧ i = .int .i64 (r + k) ∧ NR w r n wr) (fun i _ => (2 - (intOf i - r)).toNat)
  case atStart => exact ⟨0, by omega, by simp, hN0.out⟩
  case round =>
    clear hN0 c0 c1
    obtain ⟨k, hk, rfl, hN⟩ := hrel
    have c0 := blkC hN.2.1 0; have c1 := blkC hN.2.1 1; have c2 := blkC hN.2.2 0; have c3 := blkC hN.2.2 1; have c4 := blkF hN.2.2; have cx := blkX hN.2.1; have cy := blkX hN.2.2
    replace hN := Lib.hid hN
    have hkk : k = 0 ∨ k = 1 := by omega
    clear hk
    rcases hkk with rfl | rfl
    · skip
      go_wp2_with (fail)
      refine (rorder_any _ _ _ _ _).mono ?_
      rintro e w2 ⟨he, b2⟩
      rw [hg.out] at he
      subst he
      have hq := hN.out.below (((Below.refl _ wr).alloc (Nat.le_refl _) (.cells #[.int .i64 _, .int .i64 p] 23)).trans (b2.mono (by simp)))
      have hx := (b2.block (wr.heap.size) (by simp)).trans (hpNew _ _)
      have y0 := blkC hx 0; have y1 := blkC hx 1
      have g0 := blkC hq.2.2 0; have g1 := blkC hq.2.2 1; have gf := blkF hq.2.2
      have d0 := blkC hq.2.1 0; have d1 := blkC hq.2.1 1
      replace hq := Lib.hid hq
      clear hx b2 hN c0 c1 c2 c3 c4
      go_wp2_with (fail)
      exact ⟨⟨1, by omega, by go_num, hq.out⟩, by simp [intOf]; omega⟩
    · skip
      go_wp2_with (fail)
      refine bodyPost_ret (by simp [results, Tryd.results13, go_sem, *]; try with_reducible rfl) rfl ?_
      exact ⟨by simp, by have hz := hN.out.1; repeat (first | exact hz | (refine Below.setCell ?_ (by simp) _))⟩
set_option maxHeartbeats 4000000 in
theorem rnext_in (r n p : Int) (w : World) (hck : Hid (chkE r n 7 = 0)) (p0 : 0 ≤ p) (p7 : p < 7) (h1 : 1 ≤ r) (h2 : n < p) (h4 : r ≤ 1073741824) : Calls Tryd.prog 13 #[.agg #[.int .i64 r, .int .i64 n], .int .i64 p] w fun e w' => e = .returned (.tuple #[.agg #[.int .i64 (r), .int .i64 (p)], .int .i64 0]) ∧ Below w.heap.size w w' := by
  have hg := Lib.hid (show ordI r n r p = -1 from by unfold ordI cmpI; rw [if_pos rfl, if_pos h2])
  go_enter Tryd.func13, Tryd.ntmps13
  go_wp2_with (fail)
  refine (rcheck_any r n 7 _).mono ?_
  rintro e w1 ⟨he, b1⟩
  rw [hck.out] at he
  subst he
  have hN : NR w r n w1 := ⟨(((Below.refl _ w).alloc (Nat.le_refl _) (.cells #[.int .i64 r, .int .i64 n] 23)).alloc (by simp) (.cells #[.int .i64 0, .int .i64 0] 23)).trans (b1.mono (by simp; omega)), (b1.block (w.heap.size) (by simp; omega)).trans ((hpOld _ (by simp)).trans (hpNew _ _)), (b1.block (w.heap.size + 1) (by simp)).trans (hpNewAt _ (by simp))⟩
  have c0 := blkC hN.2.1 0; have c1 := blkC hN.2.1 1
  have hN0 := Lib.hid hN
  clear hN b1 hck
  go_wp2_with (fail)
  go_loopw [6] (fun i wr => ∃ k : Nat, k ≤ 0 ∧ i = .int .i64 (r + k) ∧ NR w r n wr) (fun i _ => (2 - (intOf i - r)).toNat)
  case atStart => exact ⟨0, by omega, by simp, hN0.out⟩
  case round =>
    clear hN0 c0 c1
    obtain ⟨k, hk, rfl, hN⟩ := hrel
    have c0 := blkC hN.2.1 0; have c1 := blkC hN.2.1 1; have c2 := blkC hN.2.2 0; have c3 := blkC hN.2.2 1; have c4 := blkF hN.2.2; have cx := blkX hN.2.1; have cy := blkX hN.2.2
    replace hN := Lib.hid hN
    obtain rfl : k = 0 := by omega
    clear hk
    · skip
      go_wp2_with (fail)
      refine (rorder_any _ _ _ _ _).mono ?_
      rintro e w2 ⟨he, b2⟩
      rw [hg.out] at he
      subst he
      have hq := hN.out.below (((Below.refl _ wr).alloc (Nat.le_refl _) (.cells #[.int .i64 _, .int .i64 p] 23)).trans (b2.mono (by simp)))
      have hx := (b2.block (wr.heap.size) (by simp)).trans (hpNew _ _)
      have y0 := blkC hx 0; have y1 := blkC hx 1
      have g0 := blkC hq.2.2 0; have g1 := blkC hq.2.2 1; have gf := blkF hq.2.2
      have d0 := blkC hq.2.1 0; have d1 := blkC hq.2.1 1
      replace hq := Lib.hid hq
      clear hx b2 hN c0 c1 c2 c3 c4
      go_wp2_with (fail)
      refine bodyPost_ret (by simp [results, Tryd.results13, go_sem, *]; try with_reducible rfl) rfl ?_
      exact ⟨by simp, by have hz := hq.out.1; repeat (first | exact hz | (refine Below.setCell ?_ (by simp) _))⟩
theorem nxt_cases {r n p : Int} (hv : vld r n 7 = true) (hp : 0 ≤ p ∧ p < 7) : (r = 0 ∧ n = 0 ∧ nxt r n p = (1, p, 0)) ∨ (1 ≤ r ∧ p ≤ n ∧ r + 1 ≤ 1073741824 ∧ nxt r n p = (r + 1, p, 0)) ∨ (1 ≤ r ∧ p ≤ n ∧ 1073741824 < r + 1 ∧ r ≤ 1073741824 ∧ nxt r n p = (0, 0, 7)) ∨ (1 ≤ r ∧ n < p ∧ r ≤ 1073741824 ∧ nxt r n p = (r, p, 0)) := by
  have hv' := (vld_iff r n 7).1 hv
  unfold nxt
  rw [if_pos ⟨hv, hp⟩]
  by_cases h0 : r = 0
  · left
    have e : nr r n p = r + 1 := if_pos (.inl h0)
    rw [e, if_pos (by omega)]
    exact ⟨h0, by omega, by rw [h0]; rfl⟩
  · right
    by_cases hn : p ≤ n
    · have e : nr r n p = r + 1 := if_pos (.inr hn)
      rw [e]
      by_cases hm : r + 1 ≤ 1073741824
      · left; rw [if_pos hm]; exact ⟨by omega, hn, hm, rfl⟩
      · right; left; rw [if_neg hm]; exact ⟨by omega, hn, by omega, by omega, rfl⟩
    · have e : nr r n p = r := if_neg (by omega)
      rw [e, if_pos (by omega)]
      right; right; exact ⟨by omega, by omega, by omega, rfl⟩
theorem rnext_any (r n p : Int) (w : World) : Calls Tryd.prog 13 #[.agg #[.int .i64 r, .int .i64 n], .int .i64 p] w fun e w' => e = .returned (.tuple #[.agg #[.int .i64 (nxt r n p).1, .int .i64 (nxt r n p).2.1], .int .i64 (nxt r n p).2.2]) ∧ Below w.heap.size w w' := by
  by_cases hno : vld r n 7 = false ∨ p < 0 ∨ 7 ≤ p
  · rw [nxt_no hno]; exact rnext_no r n p w hno
  have hv : vld r n 7 = true := by
    rcases Bool.eq_false_or_eq_true (vld r n 7) with hv | hv
    · exact hv
    · exact absurd (.inl hv) hno
  have hp : 0 ≤ p ∧ p < 7 := ⟨by omega, by omega⟩
  have hck := Lib.hid (chkE_ok hv)
  rcases nxt_cases hv hp with ⟨rfl, rfl, hx⟩ | ⟨h1, h2, h3, hx⟩ | ⟨h1, h2, h3, h4, hx⟩ | ⟨h1, h2, h3, hx⟩
  · rw [hx]; exact rnext_zero p w hck hp.1 hp.2
  · rw [hx]; exact rnext_up r n p w hck hp.1 hp.2 h1 h2 h3
  · rw [hx]; exact rnext_over r n p w hck hp.1 hp.2 h1 h2 h3 h4
  · rw [hx]; exact rnext_in r n p w hck hp.1 hp.2 h1 h2 h3
end Go.Proofs.YtflpnokhcaepfaaDoor
