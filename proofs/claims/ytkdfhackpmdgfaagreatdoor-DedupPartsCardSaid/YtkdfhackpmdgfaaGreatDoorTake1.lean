/- Take's closure. -/
import Derived.Test.YtkdfhackpmdgfaaGreatDoorHas
import Derived.Test.YtkdfhackpmdgfaaGreatDoorTabP
namespace Go.Proofs.YtkdfhackpmdgfaaGreatDoor
open Go.RowKit Go.Shelf
set_option linter.unusedSimpArgs false
set_option linter.unusedVariables false
set_option linter.unusedSectionVars false
set_option maxRecDepth 10000
attribute [local go_sem ↓] hideAppend
/-- The list that a closure fills: its box, its row. -/
structure OutB (base O : Nat) (B : Option Addr) (m d : Nat) (L : List Ef) (W : World) : Prop where
  ge : base ≤ O
  blk : W.heap[O]? = some (.cells #[.slice B m d] 33 (0, 0))
  own : W.ownsRow base 39 3 (.slice B m d) m (flat encE L)
  len : L.length = m
section
variable {base O m d : Nat} {B : Option Addr} {L : List Ef} {W W' : World}
theorem OutB.keep (h : OutB base O B m d L W) (hs : W.heap.size ≤ W'.heap.size) (hk : ∀ k, k < W.heap.size → (k = O ∨ rowOf B = some k) → W'.heap[k]? = W.heap[k]?) : OutB base O B m d L W' :=
  ⟨h.ge, (hk O (blkX h.blk) (.inl rfl)).trans h.blk, by
    rcases h.own.2 with e | ⟨g, cp, cur, e1, e2, hh, r⟩
    · exact ⟨h.own.1, .inl e⟩
    · exact ⟨h.own.1, .inr ⟨g, cp, cur, e1, e2, (hk g (blkX hh) (.inr (by injection e1 with e1; rw [e1]; rfl))).trans hh, r⟩⟩, h.len⟩
theorem OutB.below (h : OutB base O B m d L W) (hb : Below W.heap.size W W') : OutB base O B m d L W' := h.keep hb.size fun k hk _ => hb.block k hk
theorem OutB.rowNe (h : OutB base O B m d L W) {g : Nat} {cs : Array Value} {T : TypeId} {f : Nat × Nat} (hg : W.heap[g]? = some (.cells cs T f)) (hT : T ≠ 39) : rowOf B ≠ some g := by
  intro q
  rcases h.own.2 with ⟨e, _⟩ | ⟨g', cap, cur, e, _, hh, _⟩
  · injection e with e; rw [e] at q; cases q
  · injection e with e
    rw [e] at q
    injection q with q
    subst q
    rw [hg] at hh
    injection hh with hh
    injection hh with _ hh
    exact hT hh
theorem ef_one (V : World) (x : Ef) : ES (V.alloc (.cells #[.int .i64 x.1, .int .i64 x.2.1, .int .i64 x.2.2] 39)) (some ⟨V.heap.size, 0, none⟩) 1 [x] := by
  refine ⟨rfl, fun _ => ⟨_, _, rfl, by simp, fun i y hy j u hu => ?_⟩⟩
  have hi : i = 0 := by have := (List.getElem?_eq_some_iff.1 hy).1; simp at this; exact this
  subst hi
  simp only [List.getElem?_cons_zero, Option.some.injEq] at hy
  subst hy
  have := blkC (hpNew V (.cells #[.int .i64 x.1, .int .i64 x.2.1, .int .i64 x.2.2] 39)) (0 + 0 * 3 + j)
  rw [this]
  simpa [encE] using hu
/-- One effect more: the append, the store into the box. -/
theorem OutB.push (h : OutB base O B m d L W) (hb : base ≤ W.heap.size) (hm : m ≤ 100000) (x : Ef) :
    ∃ B' d' V, (appSem #[33, 33] 33 #[.slice B m d, .slice (some ⟨W.heap.size, 0, none⟩) 1 1]).run Tryz.prog (W.alloc (.cells #[.int .i64 x.1, .int .i64 x.2.1, .int .i64 x.2.2] 39)) = .ok (.slice B' (m + 1) d') V ∧
      V.heap[O]? = some (.cells #[.slice B m d] 33 (0, 0)) ∧ OutB base O B' (m + 1) d' (L ++ [x]) (V.setCell ⟨O, 0, none⟩ (.slice B' (m + 1) d')) ∧ Chg (fun k => k = O ∨ rowOf B = some k) W (V.setCell ⟨O, 0, none⟩ (.slice B' (m + 1) d')) ∧ (rowOf B' = rowOf B ∨ ∃ g, rowOf B' = some g ∧ W.heap.size ≤ g) := by
  have hb0 := (Below.refl W.heap.size W).alloc (Nat.le_refl _) (.cells #[.int .i64 x.1, .int .i64 x.2.1, .int .i64 x.2.2] 39)
  have h' := h.below hb0
  obtain ⟨B', d', V, hrun, hcap, hown, hgr, hat⟩ := append_sl elemE encE_len encE_one (ty := 33) (d := 1) h'.own (Nat.le_trans hb hb0.size) (ef_one W x) (by omega) (by omega)
  have hO : V.heap[O]? = some (.cells #[.slice B m d] 33 (0, 0)) := (hgr.block O (blkX h'.blk) fun e => h'.rowNe h'.blk (by decide) e.symm).trans h'.blk
  refine ⟨B', d', V, hrun, hO, ⟨h.ge, ?_, ?_, by simp [h.len]⟩, ?_, ?_⟩
  · have := hpSet (i := 0) (v := .slice B' (m + 1) d') hO
    simpa using this
  · rcases hown.2 with e | ⟨g, cp, cur, e1, e2, hh, r⟩
    · exact ⟨hown.1, .inl e⟩
    · refine ⟨hown.1, .inr ⟨g, cp, cur, e1, e2, (hpFar ?_).trans hh, r⟩⟩
      rintro rfl
      rw [hO] at hh
      injection hh with hh
      injection hh with _ hh
      exact absurd hh (by decide)
  · refine Chg.setCell ?_ (fun _ => .inl rfl) _
    exact (Chg.of_below hb0 _).trans (Chg.of_grown (S := fun k => k = O ∨ rowOf B = some k) hgr fun k e => .inr e) (fun _ _ q => q)
  · rcases hat with q | q
    · exact .inl q
    · exact .inr ⟨_, q, by simp⟩
end
/-- What a call of Take's closure leaves. -/
def Took (base O : Nat) (B : Option Addr) (L : List Ef) (r : Bool) (x : Ef) (W : World) (e : Ending) (w' : World) : Prop :=
  ∃ B' m' d', e = .returned (.bool r) ∧ OutB base O B' m' d' (if r then L ++ [x] else L) w' ∧ Chg (fun k => k = O ∨ rowOf B = some k) W w' ∧ (rowOf B' = rowOf B ∨ ∃ g, rowOf B' = some g ∧ W.heap.size ≤ g)
set_option maxHeartbeats 4000000 in
theorem take1_any (a b : ByteArray) (R : Nat) (base O : Nat) (B : Option Addr) (m d : Nat) (L : List Ef) (x : En) (W : World) (hb : base ≤ W.heap.size) (hm : m ≤ 99999) (hR : W.heap[R]? = some (.cells #[.string a, .string b] 31 (0, 0))) (hO : OutB base O B m d L W) (hok : okG (a, b) = true) (hk : nameB x.k = true)
    (ha : a.size ≤ 140737488355328) (hbs : b.size ≤ 140737488355328) (hks : x.k.size ≤ 140737488355328) :
    Calls Tryz.prog 27 #[.agg #[.int .i64 x.r.1, .int .i64 x.r.2.1, .string x.r.2.2, .int .i64 x.e.1, .int .i64 x.e.2.1, .int .i64 x.e.2.2, .string x.k], .pointer (some ⟨R, 0, none⟩), .pointer (some ⟨O, 0, none⟩)] W (Took base O B L (inG (a, b) x.k) x.e W) := by
  have kb := (Below.refl W.heap.size W).alloc (Nat.le_refl _) (.cells #[.int .i64 x.r.1, .int .i64 x.r.2.1, .string x.r.2.2, .int .i64 x.e.1, .int .i64 x.e.2.1, .int .i64 x.e.2.2, .string x.k] 67)
  obtain ⟨W1, hW1⟩ : ∃ W1, W1 = W.alloc (.cells #[.int .i64 x.r.1, .int .i64 x.r.2.1, .string x.r.2.2, .int .i64 x.e.1, .int .i64 x.e.2.1, .int .i64 x.e.2.2, .string x.k] 67) := ⟨_, rfl⟩
  have hnew := hpNew W (.cells #[.int .i64 x.r.1, .int .i64 x.r.2.1, .string x.r.2.2, .int .i64 x.e.1, .int .i64 x.e.2.1, .int .i64 x.e.2.2, .string x.k] 67)
  rw [← hW1] at kb hnew
  have hR1 := (kb.block _ (blkX hR)).trans hR
  have hc := has_any a b x.k W1 hok hk ha hbs hks
  have r0 := blkC hR 0; have r1 := blkC hR 1
  have hRl := blkX hR
  simp only [List.getElem?_toArray, List.getElem?_cons_zero, List.getElem?_cons_succ] at r0 r1
  have hO1 := hO.below kb
  replace kb := Lib.hid kb; replace hnew := Lib.hid hnew; replace hR1 := Lib.hid hR1; replace hO1 := Lib.hid hO1; replace hR := Lib.hid hR; replace hO := Lib.hid hO; replace hok := Lib.hid hok; replace hk := Lib.hid hk
  cases hin : inG (a, b) x.k with
  | false =>
    rw [hin] at hc
    replace hin := Lib.hid hin
    go_enter Tryz.func27, Tryz.ntmps27
    go_wp2_with (fail)
    rw [← hW1]
    replace hW1 := Lib.hid hW1
    refine hc.mono ?_
    rintro e w2 ⟨rfl, b2⟩
    have k2 := Lib.hid (kb.out.trans (b2.mono kb.out.size))
    clear b2 r0 r1
    go_wp2_with (fail)
    go_ret
    exact ⟨B, m, d, rfl, hO.out.below k2.out, Chg.of_below k2.out _, .inl rfl⟩
  | true =>
    rw [hin] at hc
    replace hin := Lib.hid hin
    go_enter Tryz.func27, Tryz.ntmps27
    go_wp2_with (fail)
    rw [← hW1]
    replace hW1 := Lib.hid hW1
    refine hc.mono ?_
    rintro e w2 ⟨rfl, b2⟩
    have k2 := kb.out.trans (b2.mono kb.out.size)
    have hO2 := hO.out.below k2
    have hn2 := (b2.block _ (blkX hnew.out)).trans hnew.out
    have y3 := blkC hn2 3; have y4 := blkC hn2 4; have y5 := blkC hn2 5
    have o0 := blkC hO2.blk 0
    simp only [List.getElem?_toArray, List.getElem?_cons_zero, List.getElem?_cons_succ] at y3 y4 y5 o0
    obtain ⟨B', d', V, hrun, hOV, hO3, hch, hat⟩ := hO2.push (Nat.le_trans hb k2.size) (by omega) x.e
    have v0 := blkC hOV 0
    have vf := blkF hOV
    simp only [List.getElem?_toArray, List.getElem?_cons_zero, List.getElem?_cons_succ] at v0
    have hfin : Chg (fun k => k = O ∨ rowOf B = some k) W (V.setCell ⟨O, 0, none⟩ (.slice B' (m + 1) d')) := (Chg.of_below k2 _).trans hch (fun _ _ q => q)
    have hat' : rowOf B' = rowOf B ∨ ∃ g, rowOf B' = some g ∧ W.heap.size ≤ g := hat.imp id fun ⟨g, q1, q2⟩ => ⟨g, q1, Nat.le_trans k2.size q2⟩
    replace k2 := Lib.hid k2; replace b2 := Lib.hid b2; replace hO2 := Lib.hid hO2; replace hn2 := Lib.hid hn2; replace hO3 := Lib.hid hO3; replace hch := Lib.hid hch; replace hat := Lib.hid hat; replace hOV := Lib.hid hOV; replace hfin := Lib.hid hfin; replace hat' := Lib.hid hat'
    clear r0 r1
    go_wp2_with (fail)
    go_ret
    exact ⟨B', m + 1, d', rfl, hO3.out, hfin.out, hat'.out⟩
end Go.Proofs.YtkdfhackpmdgfaaGreatDoor
