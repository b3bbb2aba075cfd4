/- The program's Parse. -/
import Derived.Test.YtflpnokhcaepfaaDoorText
namespace Go.Proofs.YtflpnokhcaepfaaDoor
open Go.RowKit
set_option linter.unusedSimpArgs false
set_option linter.unusedVariables false
set_option linter.unusedSectionVars false
set_option maxRecDepth 10000
theorem atoi_gen (s : ByteArray) (hs : s.size ≤ 140737488355328) (w : World) (hL : Ldr w) : Calls Tryd.prog 35 #[.string s] w fun e w' => ∃ x ev, e = .returned (.tuple #[.int .i64 x, ev]) ∧ Below w.heap.size w w' := by
  cases hc : Lib.atoiAll s.data.toList
  · exact (atoi_ok s hs _ hc w).mono fun e w' ⟨h1, h2⟩ => ⟨_, _, h1, h2⟩
  · exact (atoi_no s hs (by rw [hc]; intro v h; cases h) w hL).mono fun e w' ⟨x, t, p, h1, h2⟩ => ⟨_, _, h1, h2⟩
  · exact (atoi_no s hs (by rw [hc]; intro v h; cases h) w hL).mono fun e w' ⟨x, t, p, h1, h2⟩ => ⟨_, _, h1, h2⟩
set_option maxHeartbeats 4000000 in
theorem parse_n1 (s : ByteArray) (hs : s.size ≤ 140737488355328) (w : World) (hL : Ldr w) (SA SB : ByteArray) (HA : Hid (SA = ⟨(Lib.cut s.data.toList [46]).1.toArray⟩)) (HB : Hid (SB = ⟨(Lib.cut s.data.toList [46]).2.1.toArray⟩)) (hSA : SA.size ≤ 140737488355328) (hSB : SB.size ≤ 140737488355328) (hn : Hid (∀ v, Lib.atoiAll SA.data.toList ≠ .ok v)) : Calls Tryd.prog 21 #[.string s] w fun e w' => e = .returned (.tuple #[.agg #[.int .i64 0, .int .i64 0], .int .i64 10]) ∧ Below w.heap.size w w' := by
  go_enter Tryd.func21, Tryd.ntmps21
  go_wp2_with (fail)
  refine (cut_any s hs _).mono ?_
  rintro e w1 ⟨he, b1⟩
  rw [← HA.out, ← HB.out] at he
  subst he
  have g1 := (b1.block (w.heap.size) (by simp)).trans (hpNew _ _)
  have B1 := ((Below.refl _ w).alloc (Nat.le_refl _) (.cells #[.int .i64 0, .int .i64 0] 23)).trans (b1.mono (by simp))
  clear b1
  go_wp2_with (fail)
  refine (atoi_no SA hSA hn.out _ (hL.keep B1)).mono ?_
  rintro e w2 ⟨x, t, p, rfl, b2⟩
  have g2 := (b2.block _ (blkX g1)).trans g1
  have B2 := B1.trans (b2.mono B1.size)
  clear b2 g1
  go_wp2_with (fail)
  refine (atoi_gen SB hSB _ (hL.keep B2)).mono ?_
  rintro e w3 ⟨y, ev, rfl, b3⟩
  have g3 := (b3.block _ (blkX g2)).trans g2
  have B3 := B2.trans (b3.mono B2.size)
  clear b3 g2
  go_wp2_with (fail)
  have hL3 := hL.keep B3
  have hb3 := (Below.refl _ w3).alloc (Nat.le_refl _) (.cells #[.int .i64 x, .int .i64 y] 23)
  refine (text_any x y _ (hL3.keep hb3)).mono ?_
  rintro e w4 ⟨rfl, b4⟩
  have g4 := (b4.block _ (by have := blkX g3; simp; omega)).trans ((hpOld _ (blkX g3)).trans g3)
  have x4 := (b4.block (w3.heap.size) (by simp)).trans (hpNew _ _)
  have B4 := (B3.trans (hb3.mono B3.size)).trans (b4.mono (by have := B3.size; simp; omega))
  have c0 := blkC g4 0; have c1 := blkC g4 1; have cf := blkF g4; have y0 := blkC x4 0; have y1 := blkC x4 1
  replace B4 := Lib.hid B4
  clear g4 x4 b4 hL3 hb3 B3 g3 B2 B1
  go_wp2_with (fail)
  refine bodyPost_ret (by simp [results, Tryd.results21, go_sem, *]; try with_reducible rfl) rfl ?_
  exact ⟨by simp, by have hz := B4.out; repeat (first | exact hz | (refine Below.setCell ?_ (by simp) _))⟩
set_option maxHeartbeats 4000000 in
theorem parse_n2 (s : ByteArray) (hs : s.size ≤ 140737488355328) (w : World) (hL : Ldr w) (SA SB : ByteArray) (HA : Hid (SA = ⟨(Lib.cut s.data.toList [46]).1.toArray⟩)) (HB : Hid (SB = ⟨(Lib.cut s.data.toList [46]).2.1.toArray⟩)) (hSA : SA.size ≤ 140737488355328) (hSB : SB.size ≤ 140737488355328) (v : Int) (hv : Hid (Lib.atoiAll SA.data.toList = .ok v)) (hn : Hid (∀ v, Lib.atoiAll SB.data.toList ≠ .ok v)) : Calls Tryd.prog 21 #[.string s] w fun e w' => e = .returned (.tuple #[.agg #[.int .i64 0, .int .i64 0], .int .i64 10]) ∧ Below w.heap.size w w' := by
  go_enter Tryd.func21, Tryd.ntmps21
  go_wp2_with (fail)
  refine (cut_any s hs _).mono ?_
  rintro e w1 ⟨he, b1⟩
  rw [← HA.out, ← HB.out] at he
  subst he
  have g1 := (b1.block (w.heap.size) (by simp)).trans (hpNew _ _)
  have B1 := ((Below.refl _ w).alloc (Nat.le_refl _) (.cells #[.int .i64 0, .int .i64 0] 23)).trans (b1.mono (by simp))
  clear b1
  go_wp2_with (fail)
  refine (atoi_ok SA hSA v hv.out _).mono ?_
  rintro e w2 ⟨rfl, b2⟩
  have g2 := (b2.block _ (blkX g1)).trans g1
  have B2 := B1.trans (b2.mono B1.size)
  clear b2 g1
  go_wp2_with (fail)
  refine (atoi_no SB hSB hn.out _ (hL.keep B2)).mono ?_
  rintro e w3 ⟨y, t, p, rfl, b3⟩
  have g3 := (b3.block _ (blkX g2)).trans g2
  have B3 := B2.trans (b3.mono B2.size)
  clear b3 g2
  go_wp2_with (fail)
  have hL3 := hL.keep B3
  have hb3 := (Below.refl _ w3).alloc (Nat.le_refl _) (.cells #[.int .i64 v, .int .i64 y] 23)
  refine (text_any v y _ (hL3.keep hb3)).mono ?_
  rintro e w4 ⟨rfl, b4⟩
  have g4 := (b4.block _ (by have := blkX g3; simp; omega)).trans ((hpOld _ (blkX g3)).trans g3)
  have x4 := (b4.block (w3.heap.size) (by simp)).trans (hpNew _ _)
  have B4 := (B3.trans (hb3.mono B3.size)).trans (b4.mono (by have := B3.size; simp; omega))
  have c0 := blkC g4 0; have c1 := blkC g4 1; have cf := blkF g4; have y0 := blkC x4 0; have y1 := blkC x4 1
  replace B4 := Lib.hid B4
  clear g4 x4 b4 hL3 hb3 B3 g3 B2 B1
  go_wp2_with (fail)
  refine bodyPost_ret (by simp [results, Tryd.results21, go_sem, *]; try with_reducible rfl) rfl ?_
  exact ⟨by simp, by have hz := B4.out; repeat (first | exact hz | (refine Below.setCell ?_ (by simp) _))⟩
set_option maxHeartbeats 4000000 in
theorem parse_n3 (s : ByteArray) (hs : s.size ≤ 140737488355328) (w : World) (hL : Ldr w) (SA SB : ByteArray) (HA : Hid (SA = ⟨(Lib.cut s.data.toList [46]).1.toArray⟩)) (HB : Hid (SB = ⟨(Lib.cut s.data.toList [46]).2.1.toArray⟩)) (hSA : SA.size ≤ 140737488355328) (hSB : SB.size ≤ 140737488355328) (v u : Int) (hv : Hid (Lib.atoiAll SA.data.toList = .ok v)) (hu : Hid (Lib.atoiAll SB.data.toList = .ok u)) (hck : Hid (chkE v u 7 = 2)) : Calls Tryd.prog 21 #[.string s] w fun e w' => e = .returned (.tuple #[.agg #[.int .i64 0, .int .i64 0], .int .i64 10]) ∧ Below w.heap.size w w' := by
  go_enter Tryd.func21, Tryd.ntmps21
  go_wp2_with (fail)
  refine (cut_any s hs _).mono ?_
  rintro e w1 ⟨he, b1⟩
  rw [← HA.out, ← HB.out] at he
  subst he
  have g1 := (b1.block (w.heap.size) (by simp)).trans (hpNew _ _)
  have B1 := ((Below.refl _ w).alloc (Nat.le_refl _) (.cells #[.int .i64 0, .int .i64 0] 23)).trans (b1.mono (by simp))
  clear b1
  go_wp2_with (fail)
  refine (atoi_ok SA hSA v hv.out _).mono ?_
  rintro e w2 ⟨rfl, b2⟩
  have g2 := (b2.block _ (blkX g1)).trans g1
  have B2 := B1.trans (b2.mono B1.size)
  clear b2 g1
  go_wp2_with (fail)
  refine (atoi_ok SB hSB u hu.out _).mono ?_
  rintro e w3 ⟨rfl, b3⟩
  have g3 := (b3.block _ (blkX g2)).trans g2
  have B3 := B2.trans (b3.mono B2.size)
  clear b3 g2
  go_wp2_with (fail)
  have hL3 := hL.keep B3
  have hb3 := (Below.refl _ w3).alloc (Nat.le_refl _) (.cells #[.int .i64 v, .int .i64 u] 23)
  refine (text_any v u _ (hL3.keep hb3)).mono ?_
  rintro e w4 ⟨he, b4⟩
  rw [hck.out] at he
  subst he
  have g4 := (b4.block _ (by have := blkX g3; simp; omega)).trans ((hpOld _ (blkX g3)).trans g3)
  have x4 := (b4.block (w3.heap.size) (by simp)).trans (hpNew _ _)
  have B4 := (B3.trans (hb3.mono B3.size)).trans (b4.mono (by have := B3.size; simp; omega))
  have c0 := blkC g4 0; have c1 := blkC g4 1; have cf := blkF g4; have y0 := blkC x4 0; have y1 := blkC x4 1
  replace B4 := Lib.hid B4
  clear g4 x4 b4 hL3 hb3 B3 g3 B2 B1
  go_wp2_with (fail)
  refine bodyPost_ret (by simp [results, Tryd.results21, go_sem, *]; try with_reducible rfl) rfl ?_
  exact ⟨by simp, by have hz := B4.out; repeat (first | exact hz | (refine Below.setCell ?_ (by simp) _))⟩
set_option maxHeartbeats 4000000 in
theorem parse_n4 (s : ByteArray) (hs : s.size ≤ 140737488355328) (w : World) (hL : Ldr w) (SA SB : ByteArray) (HA : Hid (SA = ⟨(Lib.cut s.data.toList [46]).1.toArray⟩)) (HB : Hid (SB = ⟨(Lib.cut s.data.toList [46]).2.1.toArray⟩)) (hSA : SA.size ≤ 140737488355328) (hSB : SB.size ≤ 140737488355328) (v u : Int) (hv : Hid (Lib.atoiAll SA.data.toList = .ok v)) (hu : Hid (Lib.atoiAll SB.data.toList = .ok u)) (hck : Hid (chkE v u 7 = 0)) (T : ByteArray) (hst : Hid (txtS v u = T)) (hne : (T.toList == s.toList) = false) : Calls Tryd.prog 21 #[.string s] w fun e w' => e = .returned (.tuple #[.agg #[.int .i64 0, .int .i64 0], .int .i64 10]) ∧ Below w.heap.size w w' := by
  go_enter Tryd.func21, Tryd.ntmps21
  go_wp2_with (fail)
  refine (cut_any s hs _).mono ?_
  rintro e w1 ⟨he, b1⟩
  rw [← HA.out, ← HB.out] at he
  subst he
  have g1 := (b1.block (w.heap.size) (by simp)).trans (hpNew _ _)
  have B1 := ((Below.refl _ w).alloc (Nat.le_refl _) (.cells #[.int .i64 0, .int .i64 0] 23)).trans (b1.mono (by simp))
  clear b1
  go_wp2_with (fail)
  refine (atoi_ok SA hSA v hv.out _).mono ?_
  rintro e w2 ⟨rfl, b2⟩
  have g2 := (b2.block _ (blkX g1)).trans g1
  have B2 := B1.trans (b2.mono B1.size)
  clear b2 g1
  go_wp2_with (fail)
  refine (atoi_ok SB hSB u hu.out _).mono ?_
  rintro e w3 ⟨rfl, b3⟩
  have g3 := (b3.block _ (blkX g2)).trans g2
  have B3 := B2.trans (b3.mono B2.size)
  clear b3 g2
  go_wp2_with (fail)
  have hL3 := hL.keep B3
  have hb3 := (Below.refl _ w3).alloc (Nat.le_refl _) (.cells #[.int .i64 v, .int .i64 u] 23)
  refine (text_any v u _ (hL3.keep hb3)).mono ?_
  rintro e w4 ⟨he, b4⟩
  rw [hck.out, hst.out] at he
  subst he
  have g4 := (b4.block _ (by have := blkX g3; simp; omega)).trans ((hpOld _ (blkX g3)).trans g3)
  have x4 := (b4.block (w3.heap.size) (by simp)).trans (hpNew _ _)
  have B4 := (B3.trans (hb3.mono B3.size)).trans (b4.mono (by have := B3.size; simp; omega))
  have c0 := blkC g4 0; have c1 := blkC g4 1; have cf := blkF g4; have y0 := blkC x4 0; have y1 := blkC x4 1
  replace B4 := Lib.hid B4
  clear g4 x4 b4 hL3 hb3 B3 g3 B2 B1
  go_wp2_with (fail)
  refine bodyPost_ret (by simp [results, Tryd.results21, go_sem, *]; try with_reducible rfl) rfl ?_
  exact ⟨by simp, by have hz := B4.out; repeat (first | exact hz | (refine Below.setCell ?_ (by simp) _))⟩
set_option maxHeartbeats 4000000 in
theorem parse_ok (s : ByteArray) (hs : s.size ≤ 140737488355328) (w : World) (hL : Ldr w) (SA SB : ByteArray) (HA : Hid (SA = ⟨(Lib.cut s.data.toList [46]).1.toArray⟩)) (HB : Hid (SB = ⟨(Lib.cut s.data.toList [46]).2.1.toArray⟩)) (hSA : SA.size ≤ 140737488355328) (hSB : SB.size ≤ 140737488355328) (v u : Int) (hv : Hid (Lib.atoiAll SA.data.toList = .ok v)) (hu : Hid (Lib.atoiAll SB.data.toList = .ok u)) (hck : Hid (chkE v u 7 = 0)) (hst : Hid (txtS v u = s)) : Calls Tryd.prog 21 #[.string s] w fun e w' => e = .returned (.tuple #[.agg #[.int .i64 v, .int .i64 u], .int .i64 0]) ∧ Below w.heap.size w w' := by
  go_enter Tryd.func21, Tryd.ntmps21
  go_wp2_with (fail)
  refine (cut_any s hs _).mono ?_
  rintro e w1 ⟨he, b1⟩
  rw [← HA.out, ← HB.out] at he
  subst he
  have g1 := (b1.block (w.heap.size) (by simp)).trans (hpNew _ _)
  have B1 := ((Below.refl _ w).alloc (Nat.le_refl _) (.cells #[.int .i64 0, .int .i64 0] 23)).trans (b1.mono (by simp))
  clear b1
  go_wp2_with (fail)
  refine (atoi_ok SA hSA v hv.out _).mono ?_
  rintro e w2 ⟨rfl, b2⟩
  have g2 := (b2.block _ (blkX g1)).trans g1
  have B2 := B1.trans (b2.mono B1.size)
  clear b2 g1
  go_wp2_with (fail)
  refine (atoi_ok SB hSB u hu.out _).mono ?_
  rintro e w3 ⟨rfl, b3⟩
  have g3 := (b3.block _ (blkX g2)).trans g2
  have B3 := B2.trans (b3.mono B2.size)
  clear b3 g2
  go_wp2_with (fail)
  have hL3 := hL.keep B3
  have hb3 := (Below.refl _ w3).alloc (Nat.le_refl _) (.cells #[.int .i64 v, .int .i64 u] 23)
  refine (text_any v u _ (hL3.keep hb3)).mono ?_
  rintro e w4 ⟨he, b4⟩
  rw [hck.out, hst.out] at he
  subst he
  have g4 := (b4.block _ (by have := blkX g3; simp; omega)).trans ((hpOld _ (blkX g3)).trans g3)
  have x4 := (b4.block (w3.heap.size) (by simp)).trans (hpNew _ _)
  have B4 := (B3.trans (hb3.mono B3.size)).trans (b4.mono (by have := B3.size; simp; omega))
  have c0 := blkC g4 0; have c1 := blkC g4 1; have cf := blkF g4; have y0 := blkC x4 0; have y1 := blkC x4 1
  replace B4 := Lib.hid B4
  clear g4 x4 b4 hL3 hb3 B3 g3 B2 B1
  go_wp2_with (fail)
  refine bodyPost_ret (by simp [results, Tryd.results21, go_sem, *]; try with_reducible rfl) rfl ?_
  exact ⟨by simp, by have hz := B4.out; repeat (first | exact hz | (refine Below.setCell ?_ (by simp) _))⟩
theorem str_ne {a b : ByteArray} (h : a ≠ b) : (a.toList == b.toList) = false := by
  rw [beq_eq_false_iff_ne]
  intro e
  rw [ByteArray.toList_eq, ByteArray.toList_eq] at e
  exact h (ByteArray.ext (Array.toList_inj.1 e))
theorem str_of_txt {r n : Int} {s : ByteArray} (h : txt r n = s.data.toList) : (⟨(txt r n).toArray⟩ : ByteArray) = s := by
  apply ByteArray.ext
  simp [h]
theorem txtS_iff {r n : Int} {s : ByteArray} (hv : vld r n 7 = true) : txtS r n = s ↔ txt r n = s.data.toList := by
  rw [txtS_ok hv]
  constructor
  · rintro rfl; simp
  · exact str_of_txt
theorem atoi_or (l : List UInt8) : (∃ v, Lib.atoiAll l = .ok v) ∨ ∀ v, Lib.atoiAll l ≠ .ok v := by
  cases h : Lib.atoiAll l
  · exact .inl ⟨_, rfl⟩
  · exact .inr fun v h => by cases h
  · exact .inr fun v h => by cases h
theorem prs_no1 {l : List UInt8} (h : ∀ v, Lib.atoiAll (Lib.cut l [46]).1 ≠ .ok v) : prs l = (0, 0, 10) := by
  unfold prs; split
  · rename_i x y h1 h2; exact absurd h1 (h x)
  · rfl
theorem prs_no2 {l : List UInt8} (h : ∀ v, Lib.atoiAll (Lib.cut l [46]).2.1 ≠ .ok v) : prs l = (0, 0, 10) := by
  unfold prs; split
  · rename_i x y h1 h2; exact absurd h2 (h y)
  · rfl
theorem prs_both {l : List UInt8} {v u : Int} (h1 : Lib.atoiAll (Lib.cut l [46]).1 = .ok v) (h2 : Lib.atoiAll (Lib.cut l [46]).2.1 = .ok u) : prs l = if vld v u 7 = true ∧ txt v u = l then (v, u, 0) else (0, 0, 10) := by
  unfold prs; rw [h1, h2]
theorem cut_le (l : List UInt8) : (Lib.cut l [46]).1.length ≤ l.length ∧ (Lib.cut l [46]).2.1.length ≤ l.length := by
  unfold Lib.cut
  split
  · simp; omega
  · simp
theorem parse_any (s : ByteArray) (hs : s.size ≤ 140737488355328) (w : World) (hL : Ldr w) : Calls Tryd.prog 21 #[.string s] w fun e w' => e = .returned (.tuple #[.agg #[.int .i64 (prs s.data.toList).1, .int .i64 (prs s.data.toList).2.1], .int .i64 (prs s.data.toList).2.2]) ∧ Below w.heap.size w w' := by
  obtain ⟨SA, HA⟩ : ∃ S : ByteArray, S = ⟨(Lib.cut s.data.toList [46]).1.toArray⟩ := ⟨_, rfl⟩
  obtain ⟨SB, HB⟩ : ∃ S : ByteArray, S = ⟨(Lib.cut s.data.toList [46]).2.1.toArray⟩ := ⟨_, rfl⟩
  have eA : SA.data.toList = (Lib.cut s.data.toList [46]).1 := by rw [HA]
  have eB : SB.data.toList = (Lib.cut s.data.toList [46]).2.1 := by rw [HB]
  have hl := cut_le s.data.toList
  have e : s.data.toList.length = s.size := Array.length_toList
  have hSA : SA.size ≤ 140737488355328 := by have : SA.size = SA.data.toList.length := Array.length_toList.symm; rw [this, eA]; omega
  have hSB : SB.size ≤ 140737488355328 := by have : SB.size = SB.data.toList.length := Array.length_toList.symm; rw [this, eB]; omega
  rcases atoi_or SA.data.toList with ⟨v, hv⟩ | hn
  · rcases atoi_or SB.data.toList with ⟨u, hu⟩ | hn
    · rw [prs_both (by rw [← eA]; exact hv) (by rw [← eB]; exact hu)]
      rcases Bool.eq_false_or_eq_true (vld v u 7) with hc | hc
      · by_cases ht : txt v u = s.data.toList
        · rw [if_pos ⟨hc, ht⟩]
          exact parse_ok s hs w hL SA SB HA HB hSA hSB v u hv hu (chkE_ok hc) ((txtS_iff hc).2 ht)
        · rw [if_neg (fun h => ht h.2)]
          exact parse_n4 s hs w hL SA SB HA HB hSA hSB v u hv hu (chkE_ok hc) _ rfl (str_ne fun h => ht ((txtS_iff hc).1 h))
      · rw [if_neg (fun h => by rw [hc] at h; cases h.1)]
        exact parse_n3 s hs w hL SA SB HA HB hSA hSB v u hv hu (chkE_bad hc)
    · rw [prs_no2 (by rw [← eB]; exact hn)]
      exact parse_n2 s hs w hL SA SB HA HB hSA hSB v hv hn
  · rw [prs_no1 (by rw [← eA]; exact hn)]
    exact parse_n1 s hs w hL SA SB HA HB hSA hSB hn
end Go.Proofs.YtflpnokhcaepfaaDoor
