/- A writer grows by the bytes of a slice or of a string: the append, and the store into the writer. -/
import Derived.Test.YtlinjanflenljaaGreatDoorPush
import Derived.Lib.AppendStr
import Derived.Deep.AppendLies
namespace Go.Proofs.YtlinjanflenljaaGreatDoor
open Go.RowKit Go.Lib
set_option linter.unusedSimpArgs false
set_option linter.unusedVariables false

theorem strCells_bvs (s : ByteArray) : strCells s = bvs s.data.toList := rfl

theorem IsWr.c0 {T : TypeId} {w : World} {g c : Nat} {A : Option Addr} {xs : List UInt8} (h : IsWr T w g A c xs) : w.cell? ⟨g, 0, none⟩ = some (.bool true) := blkC h.blk 0
theorem IsWr.c1 {T : TypeId} {w : World} {g c : Nat} {A : Option Addr} {xs : List UInt8} (h : IsWr T w g A c xs) : w.cell? ⟨g, 1, none⟩ = some (.slice A xs.length c) := blkC h.blk 1
theorem IsWr.fz {T : TypeId} {w : World} {g c : Nat} {A : Option Addr} {xs : List UInt8} (h : IsWr T w g A c xs) (i : Nat) : w.frozen? ⟨g, i, none⟩ = false := blkF h.blk i
/-- A slice value that reads as a list of bytes: nil too. -/
def RB (w : World) (A : Option Addr) (n : Nat) (xs : List UInt8) : Prop :=
  xs.length = n ∧ (0 < n → ∃ ad, A = some ad ∧ ad.block < w.heap.size ∧ ∀ j u, (bvs xs)[j]? = some u → w.cell? (ad.add j) = some u)
theorem RB.of_own {w : World} {base n c : Nat} {A : Option Addr} {xs : List UInt8} (h : w.ownsRow base 5 1 (.slice A n c) n (bvs xs)) : RB w A n xs := by
  have hl : xs.length = n := by have := h.1; rw [bvs_length] at this; omega
  refine ⟨hl, fun hn => ?_⟩
  rcases h.2 with ⟨_, e⟩ | ⟨g, cap, cur, e, _, hh, _⟩
  · omega
  · have e0 := e
    simp only [Value.slice.injEq] at e0
    obtain ⟨rfl, _⟩ := e0
    exact ⟨_, rfl, blkX hh, h.cells (g := g) rfl⟩
theorem block_of_add (a : Addr) (n : Nat) : (a.add n).block = a.block := by unfold Addr.add; split <;> rfl
theorem RB.keep {w w' : World} {A : Option Addr} {n : Nat} {xs : List UInt8} (h : RB w A n xs) (hs : w.heap.size ≤ w'.heap.size) (hk : ∀ k, k < w.heap.size → rowOf A = some k → w'.heap[k]? = w.heap[k]?) : RB w' A n xs :=
  ⟨h.1, fun hn => by
    obtain ⟨ad, rfl, hb, hc⟩ := h.2 hn
    exact ⟨ad, rfl, by omega, fun j u hu => (World.cell?_of_block (w := w) (by rw [block_of_add]; exact hk _ hb rfl)).trans (hc j u hu)⟩⟩
theorem RB.below {w w' : World} {A : Option Addr} {n : Nat} {xs : List UInt8} (h : RB w A n xs) (hb : Below w.heap.size w w') : RB w' A n xs := h.keep hb.size fun k hk _ => hb.block k hk
theorem RB.chg {S : Nat → Prop} {w w' : World} {A : Option Addr} {n : Nat} {xs : List UInt8} (h : RB w A n xs) (hb : Chg S w w') (hr : ∀ k, rowOf A = some k → ¬ S k) : RB w' A n xs := h.keep hb.size fun k hk e => hb.block k hk (hr k e)

/-- A world in which a writer holds ys, its new row having been made or grown out of the old one. -/
theorem IsWr.stored {T : TypeId} {w W w1 : World} {g c n' c' : Nat} {A0 A A' : Option Addr} {xs ys : List UInt8} (hT : T ≠ 5) (h : IsWr T W g A c xs) (hm : Moved w A0 A) (hch : Chg (wrS g A0) w W)
    (hown : w1.ownsRow 0 5 1 (.slice A' n' c') n' (bvs ys)) (hgr : W.grownBy w1 (rowOf A)) (hat : rowOf A' = rowOf A ∨ ∃ k, rowOf A' = some k ∧ W.heap.size ≤ k) :
    WrTo T w g A0 ys (w1.setCell ⟨g, 1, none⟩ (.slice A' n' c')) ∧ w1.heap[g]? = W.heap[g]? := by
  have hn : n' = ys.length := by have := hown.1; rw [bvs_length] at this; omega
  subst hn
  have hgb : w1.heap[g]? = W.heap[g]? := hgr.block g h.lt (fun e => h.rowNe hT h.blk hT e.symm)
  refine ⟨⟨A', c', ⟨?_, hown.1, ?_⟩, ?_, ?_⟩, hgb⟩
  · have := hpSet (i := 1) (v := .slice A' ys.length c') (hgb.trans h.blk)
    simpa using this
  · rcases hown.2 with e | ⟨k, cp, cur, e, hb, hh, rest⟩
    · exact .inl e
    · refine .inr ⟨k, cp, cur, e, hb, (hpFar ?_).trans hh, rest⟩
      rintro rfl
      rw [hgb, h.blk] at hh
      injection hh with hh
      injection hh with _ ht
      exact hT ht
  · rcases hat with e | ⟨k, e, hk⟩
    · rcases hm with e1 | ⟨k, e1, e2⟩
      · exact .inl (e.trans e1)
      · exact .inr ⟨k, e.trans e1, e2⟩
    · exact .inr ⟨k, e, Nat.le_trans hch.size hk⟩
  · refine Chg.setCell (hch.trans (Chg.of_grown (S := fun k => rowOf A = some k) hgr fun k e => e) ?_) (fun _ => Or.inl rfl) _
    intro k hk e
    rcases hm with e1 | ⟨k', e1, e2⟩
    · exact .inr (e1.symm.trans e)
    · rw [e] at e1; injection e1 with e1; omega

/-- What an append hands to the writer: the run, and the writer behind the store. -/
def Appended (T : TypeId) (w W : World) (g : Nat) (A0 : Option Addr) (ys : List UInt8) (run : Result Value) : Prop :=
  ∃ A' c' w1, run = .ok (.slice A' ys.length c') w1 ∧ WrTo T w g A0 ys (w1.setCell ⟨g, 1, none⟩ (.slice A' ys.length c')) ∧ w1.heap[g]? = W.heap[g]?

theorem IsWr.pushStr {T : TypeId} {w W : World} {g c : Nat} {A0 A : Option Addr} {xs : List UInt8} (hT : T ≠ 5) (h : IsWr T W g A c xs) (hm : Moved w A0 A) (hch : Chg (wrS g A0) w W) (s : ByteArray) (hl : xs.length + s.size ≤ 70368744177664) :
    Appended T w W g A0 (xs ++ s.data.toList) ((appSem #[22, 9] 22 #[.slice A xs.length c, .string s]).run Tryz.prog W) := by
  obtain ⟨i0, hi, hz0, hz1, hz2⟩ := info_parts byteInfo
  obtain ⟨v', w1, hrun, hown, hgr, _⟩ := run_append_own_string (P := Tryz.prog) W 0 22 9 22 5 i0 Tryz.underlying22 Tryz.underlying9 hi hz0 hz1 hz2 _ _ _ h.own s (by unfold maxLen; omega) (by omega) (Nat.zero_le _)
  have hv : (Value.slice A xs.length c).ownBlock = rowOf A := own_rowOf A _ _
  have hform : ∃ A' c', v' = .slice A' (xs.length + s.size) c' := by
    rcases hown.2 with ⟨e, e2⟩ | ⟨k, cp, cur, e, _⟩
    · exact ⟨none, 0, by rw [e, e2]⟩
    · exact ⟨_, _, e⟩
  obtain ⟨A', c', rfl⟩ := hform
  have hat : rowOf A' = rowOf A ∨ ∃ k, rowOf A' = some k ∧ W.heap.size ≤ k := by
    rcases h.own.2 with ⟨e, e2⟩ | ⟨k, cp, cur, e, _, hh, hnc, hcm, hcs, htk⟩
    · simp only [Value.slice.injEq] at e
      obtain ⟨rfl, e3, rfl⟩ := e
      have hx : xs = [] := List.eq_nil_of_length_eq_zero e3
      subst hx
      obtain ⟨v2, w2, hr2, ho2, _⟩ := run_append_own_string (P := Tryz.prog) W W.heap.size 22 9 22 5 i0 Tryz.underlying22 Tryz.underlying9 hi hz0 hz1 hz2 _ _ _ (World.ownsRow_nil W W.heap.size 5 1) s (by unfold maxLen; simp at hl; omega) (by simp at hl; omega) (Nat.le_refl _)
      have := hrun.symm.trans hr2
      simp only [Result.ok.injEq] at this
      obtain ⟨rfl, rfl⟩ := this
      cases hA : A' with
      | none => exact .inl rfl
      | some ad => exact .inr ⟨ad.block, rfl, (ho2.lt ad.block (by rw [hA]; rfl)).1⟩
    · simp only [Value.slice.injEq] at e
      obtain ⟨rfl, _, rfl⟩ := e
      by_cases hroom : xs.length + s.size ≤ c
      · have hr := run_append_room_string (P := Tryz.prog) W 22 9 22 5 i0 Tryz.underlying22 Tryz.underlying9 hi hz1 k xs.length c cur hh s hroom (by omega)
        have := hrun.symm.trans hr
        simp only [Result.ok.injEq, Value.slice.injEq] at this
        obtain ⟨⟨rfl, _⟩, _⟩ := this
        exact .inl rfl
      · have hr := run_append_grow_string (P := Tryz.prog) W 22 9 22 5 i0 (.int .u8 0) Tryz.underlying22 Tryz.underlying9 hi hz0 ⟨k, 0, none⟩ xs.length c (bvs xs) (by rw [hz1, bvs_length]; omega) (h.own.cells (g := k) rfl) s (by omega) (by omega) (by rw [hz2]; exact growslice_fits (by omega) (by omega))
        have := hrun.symm.trans hr
        simp only [Result.ok.injEq, Value.slice.injEq] at this
        obtain ⟨⟨rfl, _⟩, _⟩ := this
        exact .inr ⟨_, rfl, Nat.le_refl _⟩
  rw [hv] at hgr
  rw [strCells_bvs, ← bvs_append] at hown
  obtain ⟨h1, h2⟩ := h.stored hT hm hch hown hgr hat
  have hle : (xs ++ s.data.toList).length = xs.length + s.size := by rw [List.length_append, Array.length_toList]; rfl
  exact ⟨A', c', w1, by rw [hle]; exact hrun, by rw [hle]; exact h1, h2⟩

/-- An append of bytes onto a row of the call's own. -/
theorem append_rb {W : World} {base c : Nat} {A : Option Addr} {xs : List UInt8} (hown0 : W.ownsRow base 5 1 (.slice A xs.length c) xs.length (bvs xs)) (hbase : base ≤ W.heap.size)
    {B : Option Addr} {m d : Nat} {ys : List UInt8} (hr : RB W B m ys) (hl : xs.length + m ≤ 70368744177664) :
    ∃ A' c' w1, (appSem #[22, 22] 22 #[.slice A xs.length c, .slice B m d]).run Tryz.prog W = .ok (.slice A' (xs ++ ys).length c') w1 ∧
      w1.ownsRow base 5 1 (.slice A' (xs ++ ys).length c') (xs ++ ys).length (bvs (xs ++ ys)) ∧ W.grownBy w1 (rowOf A) ∧ (rowOf A' = rowOf A ∨ rowOf A' = some W.heap.size) := by
  obtain ⟨i0, hi, hz0, hz1, hz2⟩ := info_parts byteInfo
  have hv : (Value.slice A xs.length c).ownBlock = rowOf A := own_rowOf A _ _
  obtain ⟨hym, hcells⟩ := hr
  subst hym
  rcases B with _ | ad
  · have hm0 : ys.length = 0 := by
      rcases Nat.eq_zero_or_pos ys.length with h0 | h0
      · exact h0
      · obtain ⟨ad, e, _⟩ := hcells h0; cases e
    have hy : ys = [] := List.eq_nil_of_length_eq_zero hm0
    subst hy
    refine ⟨A, c, W, ?_, by rw [List.append_nil]; exact hown0, World.grownBy.refl W _, .inl rfl⟩
    rw [List.append_nil]
    show (Builtin.append_ _ _ _).run Tryz.prog W = _
    rcases hown0.2 with ⟨e, e2⟩ | ⟨k, cp, cur, e, _, hh, hnc, hcm, hcs, htk⟩
    · rw [e]
      simp [Builtin.append_, run_underlying Tryz.underlying22, sizeOf, typeInfo, hi, Builtin.lenOf, Builtin.firstCells, e2]
    · rw [e]
      simp [Builtin.append_, run_underlying Tryz.underlying22, sizeOf, typeInfo, hi, Builtin.lenOf, Builtin.firstCells, hnc, storeCells]
  · have hc2 : ∀ j u, (bvs ys)[j]? = some u → W.cell? (ad.add j) = some u := by
      intro j u hu
      have hj : 0 < ys.length := by
        have := (List.getElem?_eq_some_iff.1 hu).1
        rw [bvs_length] at this; omega
      obtain ⟨ad', e, _, hc⟩ := hcells hj
      have e2 : ad = ad' := Option.some.inj e
      rw [e2]
      exact hc j u hu
    obtain ⟨v', w1, hrun, hown, hgr, _, hat⟩ := run_append_own_at (P := Tryz.prog) W base 22 22 5 i0 (.int .u8 0) 1 1 Tryz.underlying22 hi hz0 hz1 hz2 rfl (by decide) _ _ _ hown0 ad ys.length d (bvs ys) (by rw [bvs_length]; omega) hc2 (bvs_one ys) (by unfold maxLen; omega) (by omega) hbase
    have hform : ∃ A' c', v' = .slice A' (xs.length + ys.length) c' := by
      rcases hown.2 with ⟨e, e2⟩ | ⟨k, cp, cur, e, _⟩
      · exact ⟨none, 0, by rw [e, e2]⟩
      · exact ⟨_, _, e⟩
    obtain ⟨A', c', rfl⟩ := hform
    rw [hv] at hgr hat
    rw [← bvs_append] at hown
    have hle : (xs ++ ys).length = xs.length + ys.length := List.length_append
    rw [own_rowOf] at hat
    exact ⟨A', c', w1, by rw [hle]; exact hrun, by rw [hle]; exact hown, hgr, hat⟩
theorem IsWr.pushAny {T : TypeId} {w W : World} {g c : Nat} {A0 A : Option Addr} {xs : List UInt8} (hT : T ≠ 5) (h : IsWr T W g A c xs) (hm : Moved w A0 A) (hch : Chg (wrS g A0) w W)
    {B : Option Addr} {m d : Nat} {ys : List UInt8} (hr : RB W B m ys) (hl : xs.length + m ≤ 70368744177664) :
    Appended T w W g A0 (xs ++ ys) ((appSem #[22, 22] 22 #[.slice A xs.length c, .slice B m d]).run Tryz.prog W) := by
  obtain ⟨A', c', w1, hrun, hown, hgr, hat⟩ := append_rb (d := d) h.own (Nat.zero_le _) hr hl
  obtain ⟨h1, h2⟩ := h.stored hT hm hch hown hgr (by
    rcases hat with e | e
    · exact .inl e
    · exact .inr ⟨_, e, Nat.le_refl _⟩)
  exact ⟨A', c', w1, hrun, h1, h2⟩
end Go.Proofs.YtlinjanflenljaaGreatDoor
