/- The reference's Parse. -/
import Derived.Test.YtflpnokhcaepfaaDoorRefT
import Derived.Test.YtflpnokhcaepfaaDoorParse
import Derived.RegionTactic
import Derived.ChangeAlike
namespace Go.Proofs.YtflpnokhcaepfaaDoor
open Go.RowKit
set_option linter.unusedSimpArgs false
set_option linter.unusedVariables false
set_option linter.unusedSectionVars false
set_option maxRecDepth 10000
/-- What the loop keeps: the two numbers' row, and the result's cells. -/
def PR (w : World) (x : Sc) (W : World) : Prop := Below w.heap.size w W ∧ W.heap[w.heap.size + 1]? = some (.cells #[.int .i64 x.p, .int .i64 x.q] 3 (0, 0)) ∧ W.heap[w.heap.size]? = some (.cells #[.int .i64 0, .int .i64 0] 23 (0, 0))
theorem PR.below {w W W' : World} {x : Sc} (h : PR w x W) (hb : Below W.heap.size W W') : PR w x W' :=
  ⟨h.1.trans (hb.mono h.1.size), (hb.block _ (blkX h.2.1)).trans h.2.1, (hb.block _ (blkX h.2.2)).trans h.2.2⟩
theorem PR.p {w W : World} {k : Nat} {p q z : Int} (h : PR w ⟨k, p, q⟩ W) : PR w ⟨k, z, q⟩ (W.setCell ⟨w.heap.size + 1, 0, none⟩ (.int .i64 z)) :=
  ⟨h.1.setCell (by simp) _, by simpa using hpSet (i := 0) (v := .int .i64 z) h.2.1, (hpFar (by simp)).trans h.2.2⟩
theorem PR.q {w W : World} {k : Nat} {p q z : Int} (h : PR w ⟨k, p, q⟩ W) : PR w ⟨k, p, z⟩ (W.setCell ⟨w.heap.size + 1, 1, none⟩ (.int .i64 z)) :=
  ⟨h.1.setCell (by simp) _, by simpa using hpSet (i := 1) (v := .int .i64 z) h.2.1, (hpFar (by simp)).trans h.2.2⟩
theorem PR.drew {w W : World} {x : Sc} (h : PR w x W) : PR w x W.drew := h.below (Below.refl _ W).drew
theorem PR.k {w W : World} {k j : Nat} {p q : Int} (h : PR w ⟨k, p, q⟩ W) : PR w ⟨j, p, q⟩ W := h
theorem byte_at (s : ByteArray) (i : Nat) (h : i < s.size) : s.data.toList[i]'(by rw [Array.length_toList]; exact h) = s[i] := rfl
/-- A round's cases. -/
theorem step_cases (k : Nat) (p q : Int) (c : UInt8) (hk : k ≤ 1) :
    (c.toNat = 46 ∧ (Sc.mk k p q).step c = ⟨1, p, q⟩) ∨ (c.toNat ≠ 46 ∧ (c.toNat < 48 ∨ 57 < c.toNat) ∧ (Sc.mk k p q).step c = ⟨k, p, q⟩) ∨
    (48 ≤ c.toNat ∧ c.toNat ≤ 57 ∧ ((k = 0 ∧ p ≤ 1073741824 ∧ (Sc.mk k p q).step c = ⟨0, 10 * p + (c.toNat - 48 : Int), q⟩) ∨ (k = 0 ∧ 1073741824 < p ∧ (Sc.mk k p q).step c = ⟨0, p, q⟩) ∨ (k = 1 ∧ q ≤ 1073741824 ∧ (Sc.mk k p q).step c = ⟨1, p, 10 * q + (c.toNat - 48 : Int)⟩) ∨ (k = 1 ∧ 1073741824 < q ∧ (Sc.mk k p q).step c = ⟨1, p, q⟩))) := by
  unfold Sc.step
  by_cases e46 : c.toNat = 46
  · left; exact ⟨e46, by rw [if_pos e46]⟩
  right
  rw [if_neg e46]
  by_cases hd : c.toNat < 48 ∨ 57 < c.toNat
  · left; exact ⟨e46, hd, by rw [if_neg (by omega)]⟩
  right
  refine ⟨by omega, by omega, ?_⟩
  have h01 : k = 0 ∨ k = 1 := by omega
  rcases h01 with rfl | rfl
  · by_cases hp : p ≤ 1073741824
    · left; exact ⟨rfl, hp, by rw [if_pos ⟨by omega, by omega, by simpa using hp⟩]; rfl⟩
    · right; left; exact ⟨rfl, by omega, by rw [if_neg]; intro h; exact hp (by simpa using h.2.2)⟩
  · by_cases hp : q ≤ 1073741824
    · right; right; left; exact ⟨rfl, hp, by rw [if_pos ⟨by omega, by omega, by simpa using hp⟩]; rfl⟩
    · right; right; right; exact ⟨rfl, by omega, by rw [if_neg]; intro h; exact hp (by simpa using h.2.2)⟩
set_option maxHeartbeats 8000000 in
theorem rparse_any (s : ByteArray) (hs : s.size ≤ 140737488355328) (w : World) (hL : Ldr w) : Calls Tryd.prog 22 #[.string s] w fun e w' => e = .returned (.tuple #[.agg #[.int .i64 (prs s.data.toList).1, .int .i64 (prs s.data.toList).2.1], .int .i64 (prs s.data.toList).2.2]) ∧ Below w.heap.size w w' := by
  have HP := prs_ref s.data.toList
  have hlen : s.data.toList.length = s.size := Array.length_toList
  have hE : scanE s.data.toList = if s.size ≤ 20 then scan s.data.toList else ⟨0, 0, 0⟩ := by unfold scanE; rw [hlen]
  have hsc : ∀ i (h : i < s.size), scan (s.data.toList.take (i + 1)) = (scan (s.data.toList.take i)).step s[i] := fun i h => scan_take (by omega)
  have h0 : scan (s.data.toList.take 0) = ⟨0, 0, 0⟩ := rfl
  have hfull : scan (s.data.toList.take s.size) = scan s.data.toList := by rw [List.take_of_length_le (by omega)]
  have hok : ∀ i, (scan (s.data.toList.take i)).Ok := fun i => scan_ok _
  have hN : PR w ⟨0, 0, 0⟩ ((w.alloc (.cells #[.int .i64 0, .int .i64 0] 23)).alloc (.cells #[.int .i64 0, .int .i64 0] 3)) :=
    ⟨((Below.refl _ w).alloc (Nat.le_refl _) _).alloc (by simp) _, hpNewAt _ (by simp), (hpOld _ (by simp)).trans (hpNew _ _)⟩
  have hN0 := Lib.hid hN
  replace hE := Lib.hid hE; replace hsc := Lib.hid hsc; replace h0 := Lib.hid h0; replace hfull := Lib.hid hfull; replace hok := Lib.hid hok; replace hlen := Lib.hid hlen; replace HP := Lib.hid HP
  clear hN
  go_enter Tryd.func22, Tryd.ntmps22
  go_wp2_with (fail)
  go_loopw [5, 6] (fun a b wr => ∃ i : Nat, i ≤ s.size ∧ b = .int .i64 i ∧ a = .int .i64 ((scan (s.data.toList.take i)).k : Nat) ∧ PR w (scan (s.data.toList.take i)) wr ∧ (20 < s.size → i = 0)) (fun _ b _ => s.size - (intOf b).toNat)
  case atStart => exact ⟨0, by omega, rfl, rfl, hN0.out, fun _ => rfl⟩
  case round =>
    obtain ⟨i, hi, rfl, rfl, hN, h20⟩ := hrel
    clear hN0
    have ho := hok.out i
    by_cases hlt : i < s.size ∧ s.size ≤ 20
    · obtain ⟨hlt, hle⟩ := hlt
      have hst := hsc.out i hlt
      clear h20
      generalize scan (s.data.toList.take i) = x at *
      obtain ⟨k, p, q⟩ := x
      obtain ⟨k1, p0, p1, q0, q1⟩ := ho
      simp only at k1 p0 p1 q0 q1
      have hcs := step_cases k p q s[i] k1
      have c0 := blkC hN.2.1 0; have c1 := blkC hN.2.1 1; have cf := blkF hN.2.1
      replace hN := Lib.hid hN
      rcases hcs with ⟨e, hx⟩ | ⟨e, e2, hx⟩ | ⟨d1, d2, hx⟩
      · rw [hx] at hst
        replace hst := Lib.hid hst
        have t1 : ((s[i].toNat : Int) == 46) = true := by simp; omega
        clear hx e hok
        go_wp2_with (fail)
        refine ⟨⟨i + 1, by omega, by go_num, by first | (rw [hst.out]; done) | (rw [hst.out]; rfl), by rw [hst.out]; exact hN.out, by omega⟩, by simp [intOf]; omega⟩
      · replace hst := Lib.hid (hst.trans hx)
        have t1 : ((s[i].toNat : Int) == 46) = false := by simp; omega
        clear hx e hok
        rcases e2 with e2 | e2
        · have t2 : (s[i].toNat : Int) < 48 := by omega
          go_wp2_with (fail)
          refine ⟨⟨i + 1, by omega, by go_num, by first | (rw [hst.out]; done) | (rw [hst.out]; rfl), by rw [hst.out]; exact hN.out, by omega⟩, by simp [intOf]; omega⟩
        · have t2 : (57 : Int) < s[i].toNat := by omega
          have t3 : (48 : Int) ≤ s[i].toNat := by omega
          go_wp2_with (fail)
          refine ⟨⟨i + 1, by omega, by go_num, by first | (rw [hst.out]; done) | (rw [hst.out]; rfl), by rw [hst.out]; exact hN.out, by omega⟩, by simp [intOf]; omega⟩
      · have t1 : ((s[i].toNat : Int) == 46) = false := by simp; omega
        have t2 : (48 : Int) ≤ s[i].toNat := by omega
        have t3 : (s[i].toNat : Int) ≤ 57 := by omega
        rcases hx with ⟨rfl, hp, hx⟩ | ⟨rfl, hp, hx⟩ | ⟨rfl, hp, hx⟩ | ⟨rfl, hp, hx⟩
        · skip
          replace hst := Lib.hid (hst.trans hx)
          clear hx hok
          have w1 : IntKind.u8.wrap ((s[i].toNat : Int) - 48) = (s[i].toNat : Int) - 48 := by simp [IntKind.wrap, IntKind.signed, IntKind.bits]; omega
          go_wp2_with (fail)
          go_region
          go_wp2_with (fail)
          refine ⟨⟨i + 1, by omega, by go_num, by first | (rw [hst.out]; done) | (rw [hst.out]; rfl), by rw [hst.out]; exact hN.out.p.drew, by omega⟩, by simp [intOf]; omega⟩
        · skip
          replace hst := Lib.hid (hst.trans hx)
          clear hx hok
          go_wp2_with (fail)
          refine ⟨⟨i + 1, by omega, by go_num, by first | (rw [hst.out]; done) | (rw [hst.out]; rfl), by rw [hst.out]; exact hN.out, by omega⟩, by simp [intOf]; omega⟩
        · skip
          replace hst := Lib.hid (hst.trans hx)
          clear hx hok
          have w1 : IntKind.u8.wrap ((s[i].toNat : Int) - 48) = (s[i].toNat : Int) - 48 := by simp [IntKind.wrap, IntKind.signed, IntKind.bits]; omega
          go_wp2_with (fail)
          go_region
          go_wp2_with (fail)
          refine ⟨⟨i + 1, by omega, by go_num, by first | (rw [hst.out]; done) | (rw [hst.out]; rfl), by rw [hst.out]; exact hN.out.q.drew, by omega⟩, by simp [intOf]; omega⟩
        · skip
          replace hst := Lib.hid (hst.trans hx)
          clear hx hok
          go_wp2_with (fail)
          refine ⟨⟨i + 1, by omega, by go_num, by first | (rw [hst.out]; done) | (rw [hst.out]; rfl), by rw [hst.out]; exact hN.out, by omega⟩, by simp [intOf]; omega⟩
    · have hx : scan (s.data.toList.take i) = scanE s.data.toList := by
        rw [hE.out]
        by_cases hle : s.size ≤ 20
        · rw [if_pos hle]
          obtain rfl : i = s.size := by omega
          exact hfull.out
        · rw [if_neg hle]
          obtain rfl : i = 0 := h20 (by omega)
          exact h0.out
      have hend : ¬ ((i : Int) < s.size) ∨ ((i : Int) < s.size ∧ ¬ ((s.size : Int) ≤ 20)) := by omega
      rw [hx] at hN ho
      replace HP := HP.out
      clear hx h20 hsc h0 hfull hok hE hlt
      have hst : ∀ (p q : Int), vld p q 7 = true → (txtS p q = s ↔ txt p q = s.data.toList) := fun p q h => txtS_iff h
      replace hst := Lib.hid hst
      generalize scanE s.data.toList = x at *
      obtain ⟨k, p, q⟩ := x
      obtain ⟨k1, p0, p1, q0, q1⟩ := ho
      simp only at k1 p0 p1 q0 q1
      simp only at HP
      have c0 := blkC hN.2.1 0; have c1 := blkC hN.2.1 1; have cx := blkX hN.2.1
      have hcase : ∃ e : Int, chkE p q 7 = e ∧ ((e = 2 ∧ prs s.data.toList = (0, 0, 10)) ∨ (e = 0 ∧ txtS p q = s ∧ prs s.data.toList = (p, q, 0)) ∨ (e = 0 ∧ (∃ T, txtS p q = T ∧ (T.toList == s.toList) = false) ∧ prs s.data.toList = (0, 0, 10))) := by
        rcases Bool.eq_false_or_eq_true (vld p q 7) with hc | hc
        · by_cases ht : txt p q = s.data.toList
          · exact ⟨0, chkE_ok hc, .inr (.inl ⟨rfl, (hst.out p q hc).2 ht, HP.symm.trans (if_pos ⟨hc, ht⟩)⟩)⟩
          · exact ⟨0, chkE_ok hc, .inr (.inr ⟨rfl, ⟨_, rfl, str_ne fun h => ht ((hst.out p q hc).1 h)⟩, HP.symm.trans (if_neg fun h => ht h.2)⟩)⟩
        · exact ⟨2, chkE_bad hc, .inl ⟨rfl, HP.symm.trans (if_neg fun h => by rw [hc] at h; cases h.1)⟩⟩
      obtain ⟨ev, hck, hcase⟩ := hcase
      replace hck := Lib.hid hck
      clear hst HP
      replace hN := Lib.hid hN
      rcases hend with hend | ⟨he1, he2⟩
      all_goals
        rcases hcase with ⟨rfl, hr⟩ | ⟨rfl, ht, hr⟩ | ⟨rfl, ⟨T, ht, hne⟩, hr⟩
      all_goals
        replace hr := Lib.hid hr
        first | (replace ht := Lib.hid ht) | skip
        go_wp2_with (fail)
        go_region
        go_wp2_with (fail)
        have hA := ((Below.refl _ wr).alloc (Nat.le_refl _) (.cells #[.int .i64 p, .int .i64 q] 23)).drew
        refine (rtext_any p q _ ((hL.keep hN.out.1).keep hA)).mono ?_
        rintro e w4 ⟨he, b4⟩
        rw [hck.out] at he
        try rw [ht.out] at he
        subst he
        have hq := hN.out.below (hA.trans (b4.mono (by simp)))
        have x4 := (b4.block (wr.heap.size) (by simp)).trans (hpDrewAt (hpNew _ _))
        have y0 := blkC x4 0; have y1 := blkC x4 1
        have g0 := blkC hq.2.2 0; have g1 := blkC hq.2.2 1; have gf := blkF hq.2.2
        have B4 := Lib.hid hq.1
        clear x4 b4 hA hq c0 c1 cx hN hck
        go_wp2_with (fail)
        refine bodyPost_ret (by simp [results, Tryd.results22, go_sem, *]; try with_reducible rfl) rfl ?_
        exact ⟨by rw [hr.out], by have hz := B4.out; repeat (first | exact hz | (refine Below.setCell ?_ (by simp) _))⟩
end Go.Proofs.YtflpnokhcaepfaaDoor
