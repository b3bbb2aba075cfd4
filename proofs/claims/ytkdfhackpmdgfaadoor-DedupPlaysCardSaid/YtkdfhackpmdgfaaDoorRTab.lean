/- The document's table: its functions that read. -/
import Derived.Test.YtkdfhackpmdgfaaDoorTabP
import Derived.Test.YtkdfhackpmdgfaaDoorRng
import Derived.Deep.QuietTactic
import Derived.BigQuiet
namespace Go.Proofs.YtkdfhackpmdgfaaDoor
open Go.RowKit Go.Shelf
set_option linter.unusedSimpArgs false
set_option linter.unusedVariables false
set_option linter.unusedSectionVars false
set_option maxRecDepth 10000
/-- A table of the document: its block, its row of entries, both of the call's own (from base on). -/
structure TabR (base : Nat) (D : Nat) (size : Int) (A : Option Addr) (c : Nat) (P : List En) (W : World) : Prop where
  ge : base ≤ D
  blk : W.heap[D]? = some (.cells #[.int .i64 size, .slice A P.length c] 85 (0, 0))
  own : W.ownsRow base 94 7 (.slice A P.length c) P.length (flat encR P)
  le : (P.length : Int) ≤ size
  sz : size ≤ 2048
section
variable {base D c : Nat} {size : Int} {A : Option Addr} {P : List En} {w W W' : World}
theorem TabR.rs (h : TabR base D size A c P W) : RS W A P.length P := SL.of_own encR_len h.own rfl
theorem TabR.lt (h : TabR base D size A c P W) : D < W.heap.size := blkX h.blk
theorem TabR.rowLt (h : TabR base D size A c P W) : ∀ g, rowOf A = some g → base ≤ g ∧ g < W.heap.size := own_row h.own
theorem TabR.cap (h : TabR base D size A c P W) : P.length ≤ c := by
  obtain ⟨A', c', e, hc⟩ := own_shape h.own
  injection e with _ _ e
  omega
theorem TabR.rowNe (h : TabR base D size A c P W) {g : Nat} {cs : Array Value} {T : TypeId} {f : Nat × Nat} (hg : W.heap[g]? = some (.cells cs T f)) (hT : T ≠ 94) : rowOf A ≠ some g := by
  intro q
  rcases h.own.2 with ⟨e, _⟩ | ⟨g', cap, cur, e, _, hh, _⟩
  · injection e with e; rw [e] at q; cases q
  · injection e with e
    rw [e] at q
    injection q with q
    subst q
    rw [hg] at hh
    injection hh with hh
    injection hh with _ hh
    exact hT hh
theorem TabR.keep (h : TabR base D size A c P W) (hs : W.heap.size ≤ W'.heap.size) (hk : ∀ k, k < W.heap.size → (k = D ∨ rowOf A = some k) → W'.heap[k]? = W.heap[k]?) : TabR base D size A c P W' :=
  ⟨h.ge, (hk D h.lt (.inl rfl)).trans h.blk, by
    rcases h.own.2 with e | ⟨g, cp, cur, e1, e2, hh, r⟩
    · exact ⟨h.own.1, .inl e⟩
    · exact ⟨h.own.1, .inr ⟨g, cp, cur, e1, e2, (hk g (blkX hh) (.inr (by injection e1 with e1; rw [e1]; rfl))).trans hh, r⟩⟩, h.le, h.sz⟩
theorem TabR.below (h : TabR base D size A c P W) (hb : Below W.heap.size W W') : TabR base D size A c P W' := h.keep hb.size fun k hk _ => hb.block k hk
theorem TabR.chg {S : Nat → Prop} (h : TabR base D size A c P W) (hc : Chg S W W') (hS : ∀ k, k = D ∨ rowOf A = some k → ¬ S k) : TabR base D size A c P W' := h.keep hc.size fun k hk q => hc.block k hk (hS k q)
end

theorem rnew_ok (size : Int) (base : Nat) (w : World) (h0 : 0 ≤ size) (h1 : size ≤ 2048) (hb : base ≤ w.heap.size) : Calls Tryd.prog 12 #[.int .i64 size] w fun e w' => e = .returned (.tuple #[.pointer (some ⟨w.heap.size, 0, none⟩), .int .i64 0]) ∧ TabR base w.heap.size size none 0 [] w' ∧ Below w.heap.size w w' := by
  have hnew := hpNew w (.cells #[.int .i64 size, .slice none 0 0] 85)
  have kb := (Below.refl w.heap.size w).alloc (Nat.le_refl _) (.cells #[.int .i64 size, .slice none 0 0] 85)
  replace hnew := Lib.hid hnew; replace kb := Lib.hid kb
  have d0 : ¬ size < 0 := by omega
  have d1 : ¬ 2048 < size := by omega
  go_enter Tryd.func12, Tryd.ntmps12
  go_wp2_with (fail)
  refine bodyPost_ret (results_tmp2 rfl _ _ _) rfl ?_
  exact ⟨rfl, ⟨hb, hnew.out, ⟨rfl, .inl ⟨rfl, rfl⟩⟩, h0, h1⟩, kb.out⟩
theorem rnew_no (size : Int) (w : World) (h : size < 0 ∨ 2048 < size) : Calls Tryd.prog 12 #[.int .i64 size] w fun e w' => e = .returned (.tuple #[.pointer none, .int .i64 2]) ∧ w' = w := by
  rcases h with h | h
  · go_enter Tryd.func12, Tryd.ntmps12
    go_wp2_with (fail)
    refine bodyPost_ret (results_tmp2 rfl _ _ _) rfl ?_
    exact ⟨rfl, rfl⟩
  · have d0 : ¬ size < 0 := by omega
    go_enter Tryd.func12, Tryd.ntmps12
    go_wp2_with (fail)
    refine bodyPost_ret (results_tmp2 rfl _ _ _) rfl ?_
    exact ⟨rfl, rfl⟩
theorem compare_any (a b : Int) (w : World) : Calls Tryd.prog 83 #[.int .i64 a, .int .i64 b] w fun e w' => e = .returned (.int .i64 (cmpI a b)) ∧ w' = w := by
  go_enter Tryd.func83, Tryd.ntmps83
  go_wp2
  all_goals
    go_ret
    refine ⟨?_, rfl⟩
    simp [cmpI, *] <;> omega
set_option maxHeartbeats 4000000 in
theorem rorder_any (x y : Ef) (w : World) : Calls Tryd.prog 67 #[.agg #[.int .i64 x.1, .int .i64 x.2.1, .int .i64 x.2.2], .agg #[.int .i64 y.1, .int .i64 y.2.1, .int .i64 y.2.2]] w fun e w' => e = .returned (.int .i64 (cmpE x y)) ∧ Below w.heap.size w w' := by
  obtain ⟨x1, x2, x3⟩ := x
  obtain ⟨y1, y2, y3⟩ := y
  simp only
  have hc := fun a b W => compare_any a b W
  have kb := Lib.hid (((Below.refl w.heap.size w).alloc (Nat.le_refl _) (.cells #[.int .i64 x1, .int .i64 x2, .int .i64 x3] 23)).alloc (by simp) (.cells #[.int .i64 y1, .int .i64 y2, .int .i64 y3] 23))
  by_cases h1 : x1 = y1
  · subst h1
    by_cases h2 : x2 = y2
    · subst h2
      have he : cmpE (x1, x2, x3) (x1, x2, y3) = cmpI x3 y3 := by simp [cmpE, cmpI_zero]
      rw [he]
      go_enter Tryd.func67, Tryd.ntmps67
      go_wp2_with (fail)
      refine (hc _ _ _).mono ?_
      rintro e w2 ⟨rfl, rfl⟩
      go_wp2_with (fail)
      go_ret
      exact ⟨rfl, kb.out⟩
    · have he : cmpE (x1, x2, x3) (x1, y2, y3) = cmpI x2 y2 := by simp [cmpE, cmpI_zero, h2]
      rw [he]
      go_enter Tryd.func67, Tryd.ntmps67
      go_wp2_with (fail)
      refine (hc _ _ _).mono ?_
      rintro e w2 ⟨rfl, rfl⟩
      go_wp2_with (fail)
      go_ret
      exact ⟨rfl, kb.out⟩
  · have he : cmpE (x1, x2, x3) (y1, y2, y3) = cmpI x1 y1 := by simp [cmpE, cmpI_zero, h1]
    rw [he]
    go_enter Tryd.func67, Tryd.ntmps67
    go_wp2_with (fail)
    refine (hc _ _ _).mono ?_
    rintro e w2 ⟨rfl, rfl⟩
    go_wp2_with (fail)
    go_ret
    exact ⟨rfl, kb.out⟩
def chkR (r : Rp) : Int := if okR r then 0 else 2
set_option maxHeartbeats 2000000 in
theorem checkR_any (a b : Int) (s : ByteArray) (w : World) : Calls Tryd.prog 52 #[.agg #[.int .i64 a, .int .i64 b, .string s]] w fun e w' => e = .returned (.int .i64 (chkR (a, b, s))) ∧ Below w.heap.size w w' := by
  unfold chkR
  rw [okR_def]
  go_enter Tryd.func52, Tryd.ntmps52
  go_wp2
  all_goals
    go_ret
    refine ⟨?_, ?_⟩
    · simp [*] <;> omega
    · repeat (first | exact Below.refl _ _ | (refine Below.alloc ?_ (by simp) _))
theorem rend_any (s : ByteArray) (hs : s.size ≤ 140737488355328) (w : World) : Calls Tryd.prog 66 #[.string s] w fun e w' => e = .returned (.bool (endB s)) ∧ w' = w := by
  by_cases h : s.toList = []
  · have he : endB s = true := by unfold endB; rw [decide_eq_true (tl_nil.1 h)]; rfl
    rw [he]
    go_enter Tryd.func66, Tryd.ntmps66
    go_wp2_with (fail)
    go_ret
    exact ⟨by simp, rfl⟩
  · have he : endB s = nameB s := by unfold endB; rw [decide_eq_false (fun q => h (tl_nil.2 q))]; rfl
    rw [he]
    go_enter Tryd.func66, Tryd.ntmps66
    go_wp2_with (fail)
    refine (rname_any s hs _).mono ?_
    rintro e w2 ⟨rfl, rfl⟩
    go_wp2_with (fail)
    go_ret
    exact ⟨by simp; exact fun q => absurd q h, rfl⟩
theorem rlen_any {base D c : Nat} {size : Int} {A : Option Addr} {P : List En} {w : World} (h : TabR base D size A c P w) : Calls Tryd.prog 43 #[.pointer (some ⟨D, 0, none⟩)] w fun e w' => e = .returned (.int .i64 (P.length : Int)) ∧ w' = w := by
  have c1 := blkC h.blk 1
  simp only [List.getElem?_toArray, List.getElem?_cons_zero, List.getElem?_cons_succ] at c1
  replace h := Lib.hid h
  go_enter Tryd.func43, Tryd.ntmps43
  go_wp2_with (fail)
  go_ret
  exact ⟨rfl, rfl⟩
set_option maxHeartbeats 2000000 in
theorem rroom_any {base D c : Nat} {size : Int} {A : Option Addr} {P : List En} {w : World} (h : TabR base D size A c P w) (h0 : 0 ≤ size) : Calls Tryd.prog 44 #[.pointer (some ⟨D, 0, none⟩)] w fun e w' => e = .returned (.int .i64 (size - P.length)) ∧ Below w.heap.size w w' := by
  have c0 := blkC h.blk 0; have c1 := blkC h.blk 1
  simp only [List.getElem?_toArray, List.getElem?_cons_zero, List.getElem?_cons_succ] at c0 c1
  have hl := h.le; have hs := h.sz
  have d0 : (0 : Int) ≤ P.length := by omega
  replace h := Lib.hid h
  go_enter Tryd.func44, Tryd.ntmps44
  go_wp2_with (fail)
  go_quiet (fail)
  go_wp2_with (fail)
  go_ret
  exact ⟨rfl, below_drewN (Below.refl _ w) _⟩
end Go.Proofs.YtkdfhackpmdgfaaDoor
