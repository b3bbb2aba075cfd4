/- The greatest ballot: the program's. -/
import Derived.Test.YtflpnokhcaepfaaDoorOrd
import Derived.Test.YtflpnokhcaepfaaDoorSl
namespace Go.Proofs.YtflpnokhcaepfaaDoor
open Go.RowKit
set_option linter.unusedSimpArgs false
set_option linter.unusedVariables false
set_option linter.unusedSectionVars false
set_option maxRecDepth 10000
def benc (x : Int × Int) : List Value := [.int .i64 x.1, .int .i64 x.2]
theorem benc_len (x : Int × Int) : (benc x).length = 2 := rfl
theorem benc_one (x : Int × Int) : ∀ u ∈ benc x, u.oneCell' = true := by intro u hu; simp [benc] at hu; rcases hu with rfl | rfl <;> rfl
/-- A slice reads as ballots. -/
def BS (w : World) (A : Option Addr) (n : Nat) (l : List (Int × Int)) : Prop := SL benc 2 w A n l
theorem BS.at_ {w : World} {A : Option Addr} {n : Nat} {l : List (Int × Int)} (h : BS w A n l) {i : Nat} (hi : i < n) : ∃ b o x, A = some ⟨b, o, none⟩ ∧ b < w.heap.size ∧ l[i]? = some x ∧ w.cell? ⟨b, o + i * 2, none⟩ = some (.int .i64 x.1) ∧ w.cell? ⟨b, o + i * 2 + 1, none⟩ = some (.int .i64 x.2) := by
  obtain ⟨b, o, x, e, hl, hx, hc⟩ := SL.at_ h hi
  exact ⟨b, o, x, e, hl, hx, hc 0 _ rfl, hc 1 _ rfl⟩
def mxStep (o x : Int × Int) : Int × Int := if 0 < ordI x.1 x.2 o.1 o.2 then x else o
def mx : List (Int × Int) → Int × Int
  | [] => (0, 0)
  | x :: r => r.foldl mxStep x
theorem mx_one {l : List (Int × Int)} {x : Int × Int} (h : l[0]? = some x) : mx (l.take 1) = x := by
  cases l with
  | nil => simp at h
  | cons a r => simp at h; subst h; rfl
theorem mx_more {l : List (Int × Int)} {i : Nat} {x : Int × Int} (h : l[i]? = some x) (hi : 0 < i) : mx (l.take (i + 1)) = mxStep (mx (l.take i)) x := by
  cases l with
  | nil => simp at h
  | cons a r =>
    obtain ⟨j, rfl⟩ : ∃ j, i = j + 1 := ⟨i - 1, by omega⟩
    have hx : r[j]? = some x := by simpa using h
    simp only [List.take_succ_cons, mx]
    rw [List.take_add_one, hx, List.foldl_append]
    rfl
theorem ord_flip (r n s m : Int) : ordI s m r n = - ordI r n s m := by
  unfold ordI cmpI
  by_cases h : r = s
  · rw [if_pos h, if_pos h.symm]
    rcases Int.lt_trichotomy n m with q | q | q
    · rw [if_neg (by omega), if_pos q, if_pos q]; rfl
    · rw [if_neg (by omega), if_neg (by omega), if_neg (by omega), if_neg (by omega)]; rfl
    · rw [if_pos q, if_neg (by omega), if_pos q]
  · rw [if_neg h, if_neg (fun e => h e.symm)]
    rcases Int.lt_trichotomy r s with q | q | q
    · rw [if_neg (by omega), if_pos q, if_pos q]; rfl
    · exact absurd q h
    · rw [if_pos q, if_neg (by omega), if_pos q]
/-- What the loops keep: the best so far, and the result's cells. -/
structure MX (w : World) (gb : Nat) (x : Int × Int) (W : World) : Prop where
  bel : Below w.heap.size w W
  blk : W.heap[gb]? = some (.cells #[.int .i64 x.1, .int .i64 x.2] 23 (0, 0))
  res : W.heap[w.heap.size]? = some (.cells #[.int .i64 0, .int .i64 0] 23 (0, 0))
theorem MX.keep {w W W' : World} {gb : Nat} {x : Int × Int} (h : MX w gb x W) (hb : Below W.heap.size W W') : MX w gb x W' :=
  ⟨h.bel.trans (hb.mono h.bel.size), (hb.block _ (blkX h.blk)).trans h.blk, (hb.block _ (blkX h.res)).trans h.res⟩
theorem MX.set {w W : World} {gb : Nat} {x : Int × Int} (h : MX w gb x W) (hg : w.heap.size < gb) (y : Int × Int) : MX w gb y ((W.setCell ⟨gb, 0, none⟩ (.int .i64 y.1)).setCell ⟨gb, 1, none⟩ (.int .i64 y.2)) :=
  ⟨(h.bel.setCell (p := ⟨gb, 0, none⟩) (Nat.le_of_lt hg) _).setCell (p := ⟨gb, 1, none⟩) (Nat.le_of_lt hg) _, by simpa using hpSet (i := 1) (v := .int .i64 y.2) (hpSet (i := 0) (v := .int .i64 y.1) h.blk), (hpFar (by simp; omega)).trans ((hpFar (by simp; omega)).trans h.res)⟩
set_option maxHeartbeats 8000000 in
theorem max_any (A : Option Addr) (n c : Nat) (l : List (Int × Int)) (w : World) (h : BS w A n l) (hn : n ≤ 70368744177664) : Calls Tryd.prog 28 #[.slice A n c] w fun e w' => e = .returned (.agg #[.int .i64 (mx l).1, .int .i64 (mx l).2]) ∧ Below w.heap.size w w' := by
  go_enter Tryd.func28, Tryd.ntmps28
  go_wp2_with (fail)
  have hN : MX w (w.heap.size + 1) (mx (l.take 0)) ((w.alloc (.cells #[.int .i64 0, .int .i64 0] 23)).alloc (.cells #[.int .i64 0, .int .i64 0] 23)) :=
    ⟨((Below.refl _ w).alloc (Nat.le_refl _) _).alloc (by simp) _, hpNewAt _ (by simp), (hpOld _ (by simp)).trans (hpNew _ _)⟩
  replace hN := Lib.hid hN
  go_loopw [8] (fun i wr => ∃ k : Nat, k ≤ n ∧ i = .int .i64 k ∧ MX w (w.heap.size + 1) (mx (l.take k)) wr) (fun i _ => n - (intOf i).toNat)
  case atStart => exact ⟨0, by omega, rfl, hN.out⟩
  case round =>
    clear hN
    obtain ⟨k, hk, rfl, hM⟩ := hrel
    have c0 := blkC hM.blk 0; have c1 := blkC hM.blk 1; have cf := blkF hM.blk; have cx := blkX hM.blk
    have d0 := blkC hM.res 0; have d1 := blkC hM.res 1; have df := blkF hM.res; have dx := blkX hM.res
    by_cases hlt : k < n
    · obtain ⟨b, o, x, rfl, hbl, hx, e0, e1⟩ := BS.at_ (h.keep hM.bel) hlt
      by_cases h0 : k = 0
      · subst h0
        have hmx := Lib.hid (mx_one hx)
        simp only [Nat.zero_mul, Nat.add_zero] at e0 e1
        generalize mx (l.take 0) = z at *
        replace hM := Lib.hid hM
        clear hx
        go_wp2_with (fail)
        refine ⟨⟨1, by omega, by go_num, ?_⟩, by simp [intOf]; omega⟩
        rw [hmx.out]
        exact (hM.out.set (by omega) x).keep ((Below.refl _ _).alloc (Nat.le_refl _) _)
      · have hmx := Lib.hid (mx_more hx (by omega))
        generalize mx (l.take k) = z at *
        replace hM := Lib.hid hM
        have hk0 : ((k : Int) == 0) = false := by simp; omega
        clear hx h0
        obtain ⟨r, hr⟩ : ∃ r, ordI x.1 x.2 z.1 z.2 = r := ⟨_, rfl⟩
        by_cases hq : 0 < r
        · have hst := Lib.hid (show mxStep z x = x from by unfold mxStep; rw [hr, if_pos hq])
          replace hr := Lib.hid hr
          go_wp2_with (fail)
          refine (order_any _ _ _ _ _).mono ?_
          rintro e w6 ⟨he, b6⟩
          rw [hr.out] at he
          subst he
          have hb6 := ((Below.refl _ wr).alloc (Nat.le_refl _) (.cells #[.int .i64 x.1, .int .i64 x.2] 23)).trans (b6.mono (by simp))
          have h6 := hM.out.keep hb6
          have x6 := (b6.block (wr.heap.size) (by simp)).trans (hpNew _ _)
          have y0 := blkC x6 0; have y1 := blkC x6 1
          clear c0 c1 d0 d1
          have c0 := blkC h6.blk 0; have c1 := blkC h6.blk 1; have gf := blkF h6.blk
          replace h6 := Lib.hid h6
          clear b6 hb6 x6
          go_wp2_with (fail)
          refine ⟨⟨k + 1, by omega, by go_num, ?_⟩, by simp [intOf]; omega⟩
          rw [hmx.out, hst.out]
          exact h6.out.set (by omega) x
        · have hst := Lib.hid (show mxStep z x = z from by unfold mxStep; rw [hr, if_neg hq])
          replace hr := Lib.hid hr
          go_wp2_with (fail)
          refine (order_any _ _ _ _ _).mono ?_
          rintro e w6 ⟨he, b6⟩
          rw [hr.out] at he
          subst he
          have hb6 := ((Below.refl _ wr).alloc (Nat.le_refl _) (.cells #[.int .i64 x.1, .int .i64 x.2] 23)).trans (b6.mono (by simp))
          have h6 := hM.out.keep hb6
          clear b6 hb6
          go_wp2_with (fail)
          refine ⟨⟨k + 1, by omega, by go_num, ?_⟩, by simp [intOf]; omega⟩
          rw [hmx.out, hst.out]
          exact h6
    · have e1 : l.take k = l := List.take_of_length_le (by rw [h.1]; omega)
      rw [e1] at hM c0 c1
      clear e1
      replace hM := Lib.hid hM
      go_wp2_with (fail)
      refine bodyPost_ret (by simp [results, Tryd.results28, go_sem, *]; try with_reducible rfl) rfl ?_
      exact ⟨rfl, by have hz := hM.out.bel; repeat (first | exact hz | (refine Below.setCell ?_ (by simp) _))⟩
/-- What the reference's loop keeps. -/
structure RX (w : World) (gb : Nat) (x : Int × Int) (W : World) : Prop where
  bel : Below w.heap.size w W
  blk : W.heap[gb]? = some (.cells #[.int .i64 x.1, .int .i64 x.2] 23 (0, 0))
end Go.Proofs.YtflpnokhcaepfaaDoor
