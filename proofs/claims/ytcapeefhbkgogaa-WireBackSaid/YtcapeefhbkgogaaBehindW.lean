/- WireBehind: the walk. -/
import Derived.Test.YtcapeefhbkgogaaWritesW
import Derived.Test.YtcapeefhbkgogaaSame
import Derived.Test.YtcapeefhbkgogaaPut
namespace Go.Proofs.Ytcapeefhbkgogaa
open Go.RowKit
set_option linter.unusedSimpArgs false
set_option linter.unusedVariables false
set_option linter.unusedSectionVars false
set_option maxRecDepth 10000
attribute [local go_sem ↓] hideAppend
attribute [local go_sem ↓] hideClear
/-- Three writers of the call's own. -/
structure W3 (B : Nat) (w W : World) (g1 g2 g3 : Nat) (A1 : Option Addr) (c1 : Nat) (A2 : Option Addr) (c2 : Nat) (A3 : Option Addr) (c3 : Nat) (xs ys zs : List UInt8) : Prop where
  a : WrO 46 B W g1 A1 c1 xs
  b : WrO 46 B W g2 A2 c2 ys
  c : WrO 46 B W g3 A3 c3 zs
  ab : g1 ≠ g2
  bc : g2 ≠ g3
  ca : g3 ≠ g1
  rab : ∀ k, rowOf A1 = some k → rowOf A2 ≠ some k
  rbc : ∀ k, rowOf A2 = some k → rowOf A3 ≠ some k
  rca : ∀ k, rowOf A3 = some k → rowOf A1 ≠ some k
  below : Below B w W
section
variable {B : Nat} {w W W' : World} {g1 g2 g3 c1 c2 c3 : Nat} {A1 A2 A3 : Option Addr} {xs ys zs vs : List UInt8}
theorem W3.rot (h : W3 B w W g1 g2 g3 A1 c1 A2 c2 A3 c3 xs ys zs) : W3 B w W g2 g3 g1 A2 c2 A3 c3 A1 c1 ys zs xs :=
  ⟨h.b, h.c, h.a, h.bc, h.ca, h.ab, h.rbc, h.rca, h.rab, h.below⟩
theorem W3.size (h : W3 B w W g1 g2 g3 A1 c1 A2 c2 A3 c3 xs ys zs) : B ≤ W.heap.size := by
  have := h.a.low; have := h.a.is.lt; omega
theorem W3.belowW (h : W3 B w W g1 g2 g3 A1 c1 A2 c2 A3 c3 xs ys zs) (hb : Below W.heap.size W W') : W3 B w W' g1 g2 g3 A1 c1 A2 c2 A3 c3 xs ys zs :=
  ⟨h.a.below hb, h.b.below hb, h.c.below hb, h.ab, h.bc, h.ca, h.rab, h.rbc, h.rca, h.below.trans (hb.mono h.size)⟩
theorem W3.step (h : W3 B w W g1 g2 g3 A1 c1 A2 c2 A3 c3 xs ys zs) (ht : WrTo 46 W g1 A1 vs W') : ∃ A' c', W3 B w W' g1 g2 g3 A' c' A2 c2 A3 c3 vs ys zs := by
  obtain ⟨A', c', o, hb⟩ := h.a.step h.below h.size ht
  obtain ⟨A'', c'', i, m, ch⟩ := ht
  have hA : A'' = A' := by
    have := i.blk.symm.trans o.is.blk
    simp only [Option.some.injEq, Obj.cells.injEq] at this
    have h2 := this.1
    simp at h2
    exact h2.1
  subst hA
  have r13 : ∀ k, rowOf A1 = some k → rowOf A3 ≠ some k := fun k e e' => h.rca k e' e
  have q2 := m.ne h.rab (fun k hk => h.b.is.rowLt hk)
  have q3 := m.ne r13 (fun k hk => h.c.is.rowLt hk)
  exact ⟨A'', c', o, ⟨h.b.is.other (by decide) ch h.ab.symm h.rab h.a.is.blk (by decide) h.a.is, h.b.low, h.b.row⟩, ⟨h.c.is.other (by decide) ch h.ca r13 h.a.is.blk (by decide) h.a.is, h.c.low, h.c.row⟩, h.ab, h.bc, h.ca, q2, h.rbc, fun k e e' => q3 k e' e, hb⟩
/-- A block of cells of another kind stays. -/
theorem W3.blkK (h : W3 B w W g1 g2 g3 A1 c1 A2 c2 A3 c3 xs ys zs) (ht : WrTo 46 W g1 A1 vs W') {g : Nat} {cs : Array Value} {T : TypeId} (hg : W.heap[g]? = some (.cells cs T (0, 0))) (hT : T ≠ 46) (hT' : T ≠ 5 := by decide) : W'.heap[g]? = some (.cells cs T (0, 0)) := by
  obtain ⟨A'', c'', i, m, ch⟩ := ht
  refine (ch.block g (blkX hg) ?_).trans hg
  rintro (e | e)
  · subst e
    have := hg.symm.trans h.a.is.blk
    injection this with this; injection this with _ this; exact hT this
  · exact h.a.is.rowNe (by decide) hg hT' e
/-- What lies between D and D' is as it was, and no writer's row lies there. -/
structure Hold (D D' : Nat) (W0 W : World) (g1 g2 g3 : Nat) (A1 A2 A3 : Option Addr) : Prop where
  d1 : g1 < D
  d2 : g2 < D
  d3 : g3 < D
  f1 : ∀ k, rowOf A1 = some k → k < D ∨ D' ≤ k
  f2 : ∀ k, rowOf A2 = some k → k < D ∨ D' ≤ k
  f3 : ∀ k, rowOf A3 = some k → k < D ∨ D' ≤ k
  size : D' ≤ W.heap.size
  hold : ∀ k, D ≤ k → k < D' → W.heap[k]? = W0.heap[k]?
theorem Hold.rot {D D' : Nat} {W0 : World} (q : Hold D D' W0 W g1 g2 g3 A1 A2 A3) : Hold D D' W0 W g2 g3 g1 A2 A3 A1 := ⟨q.d2, q.d3, q.d1, q.f2, q.f3, q.f1, q.size, q.hold⟩
theorem Hold.belowW {D D' : Nat} {W0 : World} (q : Hold D D' W0 W g1 g2 g3 A1 A2 A3) (hb : Below W.heap.size W W') : Hold D D' W0 W' g1 g2 g3 A1 A2 A3 :=
  ⟨q.d1, q.d2, q.d3, q.f1, q.f2, q.f3, Nat.le_trans q.size hb.size, fun k h1 h2 => (hb.block k (Nat.lt_of_lt_of_le h2 q.size)).trans (q.hold k h1 h2)⟩
theorem W3.stepH {D D' : Nat} {W0 : World} (h : W3 B w W g1 g2 g3 A1 c1 A2 c2 A3 c3 xs ys zs) (q : Hold D D' W0 W g1 g2 g3 A1 A2 A3) (ht : WrTo 46 W g1 A1 vs W') : ∃ A' c', W3 B w W' g1 g2 g3 A' c' A2 c2 A3 c3 vs ys zs ∧ Hold D D' W0 W' g1 g2 g3 A' A2 A3 := by
  obtain ⟨A', c', h'⟩ := h.step ht
  obtain ⟨A'', c'', i, m, ch⟩ := ht
  have hA : A'' = A' := by
    have := i.blk.symm.trans h'.a.is.blk
    simp only [Option.some.injEq, Obj.cells.injEq] at this
    have h2 := this.1
    simp at h2
    exact h2.1
  subst hA
  refine ⟨A'', c', h', q.d1, q.d2, q.d3, ?_, q.f2, q.f3, Nat.le_trans q.size ch.size, ?_⟩
  · intro k hk
    rcases m with e | ⟨k', e1, e2⟩
    · exact q.f1 k (e.symm.trans hk)
    · rw [hk] at e1; injection e1 with e1
      have := q.size
      omega
  · intro k h1 h2
    refine (ch.block k (Nat.lt_of_lt_of_le h2 q.size) ?_).trans (q.hold k h1 h2)
    rintro (e | e)
    · have := q.d1; omega
    · have := q.f1 k e; omega
/-- What a turn of other rows leaves. -/
theorem W3.keep {S : Nat → Prop} {D D' : Nat} {W0 : World} (h : W3 B w W g1 g2 g3 A1 c1 A2 c2 A3 c3 xs ys zs) (q : Hold D D' W0 W g1 g2 g3 A1 A2 A3) (hB : B ≤ D) (hc : Chg S W W') (hS : ∀ k, S k → D ≤ k ∧ k < D') : W3 B w W' g1 g2 g3 A1 c1 A2 c2 A3 c3 xs ys zs :=
  ⟨⟨h.a.is.keep hc (fun e => by have := hS _ e; have := q.d1; omega) (fun k hk e => by have := hS _ e; have := q.f1 k hk; omega), h.a.low, h.a.row⟩,
   ⟨h.b.is.keep hc (fun e => by have := hS _ e; have := q.d2; omega) (fun k hk e => by have := hS _ e; have := q.f2 k hk; omega), h.b.low, h.b.row⟩,
   ⟨h.c.is.keep hc (fun e => by have := hS _ e; have := q.d3; omega) (fun k hk e => by have := hS _ e; have := q.f3 k hk; omega), h.c.low, h.c.row⟩,
   h.ab, h.bc, h.ca, h.rab, h.rbc, h.rca, Chg.belowAfter h.below hc h.size (fun k hk e => by have := hS _ e; omega)⟩
theorem W3.hold0 (h : W3 B w W g1 g2 g3 A1 c1 A2 c2 A3 c3 xs ys zs) (hb : Below W.heap.size W W') : Hold W.heap.size W'.heap.size W' W' g1 g2 g3 A1 A2 A3 :=
  ⟨h.a.is.lt, h.b.is.lt, h.c.is.lt, fun k hk => .inl (h.a.is.rowLt hk), fun k hk => .inl (h.b.is.rowLt hk), fun k hk => .inl (h.c.is.rowLt hk), Nat.le_refl _, fun _ _ _ => rfl⟩
theorem own_held {base n c : Nat} {A : Option Addr} {bs : List Value} (o : W.ownsRow base 5 1 (.slice A n c) n bs) (hb : ∀ k, base ≤ k → k < W.heap.size → W'.heap[k]? = W.heap[k]?) : W'.ownsRow base 5 1 (.slice A n c) n bs := by
  refine ⟨o.1, ?_⟩
  rcases o.2 with e | ⟨k, cp, cur, e, h0, hh, rest⟩
  · exact .inl e
  · exact .inr ⟨k, cp, cur, e, h0, (hb k h0 (blkX hh)).trans hh, rest⟩
end
def W3To (B : Nat) (w : World) (g1 g2 g3 : Nat) (xs ys zs : List UInt8) (W : World) : Prop := ∃ A1 c1 A2 c2 A3 c3, W3 B w W g1 g2 g3 A1 c1 A2 c2 A3 c3 xs ys zs
theorem W3To.start {B : Nat} {w W : World} (hb : Below B w W) (hB : B ≤ W.heap.size) : W3To B w W.heap.size (W.heap.size + 1) (W.heap.size + 1 + 1) [] [] []
    (((W.alloc (.cells #[.bool true, .slice none 0 0] 46)).alloc (.cells #[.bool true, .slice none 0 0] 46)).alloc (.cells #[.bool true, .slice none 0 0] 46)) := by
  have o1 := WrO.new (T := 46) W hB
  have o2 := WrO.new (T := 46) (B := B) (W.alloc (.cells #[.bool true, .slice none 0 0] 46)) (by simp; omega)
  have o3 := WrO.new (T := 46) (B := B) ((W.alloc (.cells #[.bool true, .slice none 0 0] 46)).alloc (.cells #[.bool true, .slice none 0 0] 46)) (by simp; omega)
  rw [World.size_alloc] at o2
  rw [World.size_alloc, World.size_alloc] at o3
  refine ⟨none, 0, none, 0, none, 0, (o1.below ((Below.refl _ _).alloc (Nat.le_refl _) _)).below ((Below.refl _ _).alloc (Nat.le_refl _) _), o2.below ((Below.refl _ _).alloc (Nat.le_refl _) _), o3, by omega, by omega, by omega, (fun k hk => by cases hk), (fun k hk => by cases hk), (fun k hk => by cases hk), ?_⟩
  exact ((hb.alloc hB _).alloc (by simp; omega) _).alloc (by simp; omega) _
theorem encs_split (vs : List VV) (k : Nat) : encs (vs.take k) ++ encs (vs.drop k) = encs vs := by
  unfold encs
  rw [← List.flatten_append, ← List.map_append, List.take_append_drop]
theorem drop_take_at {vs : List VV} {m i : Nat} {v : VV} (h : vs[m + i]? = some v) : encs ((vs.drop m).take (i + 1)) = encs ((vs.drop m).take i) ++ encV v :=
  encs_take (by rw [List.getElem?_drop]; exact h)
theorem take_both {vs : List VV} {m i : Nat} : encs (vs.take m) ++ encs ((vs.drop m).take i) = encs (vs.take (m + i)) := by
  rw [List.take_add]
  unfold encs
  rw [List.map_append, List.flatten_append]
theorem VS.low {B : Nat} {w : World} {A : Option Addr} {n c k : Nat} {vs : List VV} (h : VS B w A n vs) (hk : k ≤ n) (hc : n ≤ c) : ∃ X, sliced A 0 k c 3 = .slice X k c ∧ VS B w X k (vs.take k) := by
  refine ⟨_, rfl, by rw [List.length_take, h.1]; omega, fun hk0 => ?_⟩
  obtain ⟨b, o, e, hl, hx⟩ := h.2 (by omega)
  refine ⟨b, o, ?_, hl, fun i v hv => hx i v ?_⟩
  · rw [if_neg (by omega), e]; rfl
  · rw [List.getElem?_take] at hv
    split at hv
    · exact hv
    · cases hv
theorem VS.high {B : Nat} {w : World} {A : Option Addr} {n c k : Nat} {vs : List VV} (h : VS B w A n vs) (hk : k ≤ n) (hc : n ≤ c) : ∃ X, sliced A k n c 3 = .slice X (n - k) (c - k) ∧ VS B w X (n - k) (vs.drop k) := by
  refine ⟨_, rfl, by rw [List.length_drop, h.1], fun hk0 => ?_⟩
  obtain ⟨b, o, e, hl, hx⟩ := h.2 (by omega)
  refine ⟨b, o + k * 3, ?_, hl, fun i v hv => ?_⟩
  · rw [if_neg (by omega), e]; simp [Addr.add]
  · rw [List.getElem?_drop] at hv
    have := hx (k + i) v hv
    rwa [show o + (k + i) * 3 = o + k * 3 + i * 3 from by omega] at this
attribute [-go_sem] sliced
set_option maxHeartbeats 4000000 in
theorem behind_walk (A : Option Addr) (n c : Nat) (vs : List VV) (x : Nat) (hx : x < 256) (w : World) (h : VS w.heap.size w A n vs) (hv : ∀ v ∈ vs, VV.Ok v) (hc : n ≤ c) (hn : n ≤ 70368744177664) :
    Calls Try.prog 8 #[.slice A n c, .int .u8 x] w fun e w' => e = .returned (.bool true) ∧ Below w.heap.size w w' := by
  rcases Bool.eq_false_or_eq_true (fewB vs) with hf | hf
  · replace hf := Lib.hid hf
    go_enter Try.func8, Try.ntmps8
    go_wp2_with (fail)
    refine (few_any A n c vs _ h hv hn).mono ?_
    rintro e w1 ⟨he, b1⟩
    rw [hf.out] at he
    subst he
    obtain ⟨k, hkm, hkn⟩ : ∃ k : Nat, (x : Int) % ((n : Int) + 1) = (k : Int) ∧ k ≤ n := ⟨x % (n + 1), by simp, Nat.lt_succ_iff.1 (Nat.mod_lt x (show 0 < n + 1 by omega))⟩
    obtain ⟨X, hs1, v1⟩ := h.low hkn hc
    obtain ⟨Y, hs2, v2⟩ := h.high hkn hc
    obtain ⟨m, hm⟩ : ∃ m, n - k = m := ⟨_, rfl⟩
    obtain ⟨d, hd⟩ : ∃ d, c - k = d := ⟨_, rfl⟩
    rw [hm, hd] at hs2
    rw [hm] at v2
    have hckn : (k : Int) ≤ (c : Int) := by omega
    have hnz : ¬ (n : Int) + 1 = 0 := by omega
    go_wp2_with (fail)
    refine (wNew_any _).mono ?_
    rintro e w2 ⟨rfl, rfl⟩
    go_wp2_with (fail)
    refine (wNew_any _).mono ?_
    rintro e w2 ⟨rfl, rfl⟩
    go_wp2_with (fail)
    refine (wNew_any _).mono ?_
    rintro e w2 ⟨rfl, rfl⟩
    have hT0 := W3To.start b1 b1.size
    go_wp2_with (fail)
    go_loopw [32] (fun i wr => ∃ j : Nat, j ≤ k ∧ i = .int .i64 j ∧ W3To w.heap.size w w1.heap.size (w1.heap.size + 1) (w1.heap.size + 1 + 1) (encs (vs.take j)) (encs (vs.take j)) [] wr) (fun i _ => k - (intOf i).toNat)
    case atStart => exact ⟨0, by omega, rfl, hT0⟩
    case round =>
      obtain ⟨j, hj, rfl, A1, c1, A2, c2, A3, c3, hT⟩ := hrel
      clear hT0
      have hle := encs_take_len hv hf.out j
      by_cases hlt : j < k
      · obtain ⟨b, o, v, rfl, hbl, hvk, e1, e2, e3⟩ := (v1.below hT.below).at_ hlt
        have hvk' : vs[j]? = some v := by
          rw [List.getElem?_take, if_pos hlt] at hvk
          exact hvk
        have hvm := List.mem_of_getElem? hvk'
        have hst := size_le_total hvm
        have hfl := (few_lin hf.out).2
        have htk := Lib.hid (encs_take hvk')
        have hle2 := encs_take_len hv hf.out (j + 1)
        have hok := hv v hvm
        clear hvk hvk'
        have hT1 := hT.belowW ((Below.refl _ wr).alloc (Nat.le_refl _) (.cells #[.int .u8 v.k, .int .u64 v.n, .string v.s] 31))
        have hnew : (wr.alloc (.cells #[.int .u8 v.k, .int .u64 v.n, .string v.s] 31)).heap[wr.heap.size]? = some (.cells #[.int .u8 v.k, .int .u64 v.n, .string v.s] 31 (0, 0)) := heap_alloc_new wr _
        go_wp2_with (fail)
        refine (put_any hT1.a.is (by omega) v hok (by omega)).mono ?_
        rintro e w2 ⟨rfl, t2⟩
        obtain ⟨A4, c4, hT2⟩ := hT1.step t2
        have k0 := hT1.blkK t2 hnew (by decide)
        have j0 : w2.cell? ⟨wr.heap.size, 0, none⟩ = some (.int .u8 v.k) := blkC k0 0
        have j1 : w2.cell? ⟨wr.heap.size, 1, none⟩ = some (.int .u64 v.n) := blkC k0 1
        have j2 : w2.cell? ⟨wr.heap.size, 2, none⟩ = some (.string v.s) := blkC k0 2
        have j3 := blkX k0
        rw [← htk.out] at hT2
        clear hT hT1 t2 e1 e2 e3
        go_wp2_with (fail)
        refine (put_any hT2.rot.a.is (by omega) v hok (by omega)).mono ?_
        rintro e w3 ⟨rfl, t3⟩
        obtain ⟨A5, c5, hT3⟩ := hT2.rot.step t3
        rw [← htk.out] at hT3
        have hT4 := hT3.rot.rot
        clear hT2 hT3 t3
        go_wp2_with (fail)
        go_roundw
        case rel => exact ⟨j + 1, by omega, by go_num, _, _, _, _, _, _, hT4⟩
        case measure => simp [intOf]; omega
      · have hjk : j = k := by omega
        subst hjk
        go_wp2_with (fail)
        refine (wBytes_any _ _ _ _ _ hT.a.is (by omega)).mono ?_
        rintro e w2 ⟨L, lc, rfl, o2, b2⟩
        go_wp2_with (fail)
        refine (clone_any (RB.of_own o2) lc (by omega)).mono ?_
        rintro e w3 ⟨M, mc, rfl, o3, b3⟩
        have b23 := b2.trans (b3.mono b2.size)
        have hQ := hT.hold0 b23
        have hT0 := hT.belowW b23
        have o2' := own_held o2 fun k _ hk => b3.block k hk
        have z2 := b2.size
        have z3 := b3.size
        have z0 := hT.size
        obtain ⟨D, hD⟩ : ∃ D, wr.heap.size = D := ⟨_, rfl⟩
        rw [hD] at hQ o2' z2 z0
        have rL : ∀ k, rowOf L = some k → D ≤ k ∧ k < w3.heap.size := fun k hk => o2'.lt k (by rw [own_rowOf]; exact hk)
        clear hT o2 b2 b3 b23 hle
        go_wp2_with (fail)
        go_loopw [51] (fun i wr => ∃ i' : Nat, i' ≤ m ∧ i = .int .i64 i' ∧ ∃ A1 c1 A2 c2 A3 c3, W3 w.heap.size w wr w1.heap.size (w1.heap.size + 1) (w1.heap.size + 1 + 1) A1 c1 A2 c2 A3 c3 (encs (vs.take j) ++ encs ((vs.drop j).take i')) (encs (vs.take j)) (encs ((vs.drop j).take i')) ∧ Hold D w3.heap.size w3 wr w1.heap.size (w1.heap.size + 1) (w1.heap.size + 1 + 1) A1 A2 A3) (fun i _ => m - (intOf i).toNat)
        case atStart =>
          refine ⟨0, by omega, rfl, A1, c1, A2, c2, A3, c3, ?_, hQ⟩
          have e0 : encs ((vs.drop j).take 0) = [] := by simp [encs]
          rw [e0, List.append_nil]
          exact hT0
        case round =>
          obtain ⟨i, hi, rfl, A1, c1, A2, c2, A3, c3, hT, hQ'⟩ := hrel
          clear hT0 hQ
          have hle : (encs (vs.take j) ++ encs ((vs.drop j).take i)).length ≤ 101000 := by rw [take_both]; exact encs_take_len hv hf.out _
          have hle' := hle
          rw [List.length_append] at hle'
          by_cases hlt : i < m
          · obtain ⟨b, o, v, rfl, hbl, hvk, e1, e2, e3⟩ := (v2.below hT.below).at_ hlt
            have hvk' : vs[j + i]? = some v := by
              rw [List.getElem?_drop] at hvk
              exact hvk
            have hvm := List.mem_of_getElem? hvk'
            have hst := size_le_total hvm
            have hfl := (few_lin hf.out).2
            have htk := Lib.hid (drop_take_at hvk')
            have htk2 := Lib.hid (show encs (vs.take j) ++ encs ((vs.drop j).take i) ++ encV v = encs (vs.take j) ++ encs ((vs.drop j).take (i + 1)) from by rw [htk.out, List.append_assoc])
            have hok := hv v hvm
            clear hvk hvk'
            have hb0 := (Below.refl _ wr).alloc (Nat.le_refl _) (.cells #[.int .u8 v.k, .int .u64 v.n, .string v.s] 31)
            have hT1 := hT.belowW hb0
            have hQ1 := hQ'.belowW hb0
            have hnew : (wr.alloc (.cells #[.int .u8 v.k, .int .u64 v.n, .string v.s] 31)).heap[wr.heap.size]? = some (.cells #[.int .u8 v.k, .int .u64 v.n, .string v.s] 31 (0, 0)) := heap_alloc_new wr _
            go_wp2_with (fail)
            refine (put_any hT1.a.is (by omega) v hok (by omega)).mono ?_
            rintro e w4 ⟨rfl, t2⟩
            obtain ⟨A4, c4, hT2, hQ2⟩ := hT1.stepH hQ1 t2
            have k0 := hT1.blkK t2 hnew (by decide)
            have j0 : w4.cell? ⟨wr.heap.size, 0, none⟩ = some (.int .u8 v.k) := blkC k0 0
            have j1 : w4.cell? ⟨wr.heap.size, 1, none⟩ = some (.int .u64 v.n) := blkC k0 1
            have j2 : w4.cell? ⟨wr.heap.size, 2, none⟩ = some (.string v.s) := blkC k0 2
            have j3 := blkX k0
            rw [htk2.out] at hT2
            clear hT hT1 t2 e1 e2 e3 hQ' hQ1
            go_wp2_with (fail)
            refine (put_any hT2.rot.rot.a.is (by omega) v hok (by omega)).mono ?_
            rintro e w5 ⟨rfl, t3⟩
            obtain ⟨A5, c5, hT3, hQ3⟩ := hT2.rot.rot.stepH hQ2.rot.rot t3
            rw [← htk.out] at hT3
            have hT4 := hT3.rot
            have hQ4 := hQ3.rot
            clear hT2 hT3 t3 hQ2 hQ3
            go_wp2_with (fail)
            exact ⟨⟨i + 1, by omega, by go_num, _, _, _, _, _, _, hT4, hQ4⟩, by simp [intOf]; omega⟩
          · have hdt : (vs.drop j).take i = vs.drop j := List.take_of_length_le (by rw [List.length_drop, h.1]; omega)
            rw [hdt] at hT hle hle'
            have rM : RB wr M (encs (vs.take j)).length (encs (vs.take j)) := (RB.of_own o3).keep hQ'.size fun k hk e => hQ'.hold k (by have := (o3.lt k (by rw [own_rowOf]; exact e)).1; omega) hk
            have oL : wr.ownsRow D 5 1 (.slice L (encs (vs.take j)).length lc) (encs (vs.take j)).length (bvs (encs (vs.take j))) := own_held o2' fun k h1 h2 => hQ'.hold k h1 h2
            have heq := Lib.hid (show (encs (vs.take j) == encs (vs.take j)) = true from beq_self_eq_true _)
            have heq2 := Lib.hid (show (encs (vs.take j) ++ encs (vs.drop j) == encs (vs.take j) ++ encs (vs.drop j)) = true from beq_self_eq_true _)
            have hlen := Lib.hid (show (encs (vs.take j) ++ encs (vs.drop j)).length = (encs (vs.take j)).length + (encs (vs.drop j)).length from List.length_append)
            go_wp2_with (fail)
            refine (equal_any rM (RB.of_own oL) _ _).mono ?_
            rintro e w4 ⟨he, rfl⟩
            rw [heq.out] at he
            subst he
            obtain ⟨w5, hrun, hch⟩ := run_clear oL 0
            have hT5 := hT.keep hQ' z0 hch rL
            clear hch hT rM oL
            go_wp2_with (fail)
            refine (wBytes_any _ _ _ _ _ hT5.a.is (by omega)).mono ?_
            rintro e w6 ⟨F, fc, rfl, o6, b6⟩
            have hT6 := hT5.belowW b6
            go_wp2_with (fail)
            refine (wBytes_any _ _ _ _ _ hT6.b.is (by omega)).mono ?_
            rintro e w7 ⟨G, gc, rfl, o7, b7⟩
            have hT7 := hT6.belowW b7
            go_wp2_with (fail)
            refine (wBytes_any _ _ _ _ _ hT7.c.is (by omega)).mono ?_
            rintro e w8 ⟨H, hc8, rfl, o8, b8⟩
            have hT8 := hT7.belowW b8
            have b68 := b7.trans (b8.mono b7.size)
            have o7' := own_held o7 fun k _ hk => b8.block k hk
            obtain ⟨Z, zc, w9, hrun9, o9, hg9, _⟩ := append_rb (d := hc8) o7' (Nat.le_trans (Nat.le_refl _) (Nat.le_trans b7.size b8.size)) (RB.of_own o8) (by omega)
            have hrG : ∀ k, rowOf G = some k → w6.heap.size ≤ k := fun k hk => (o7.lt k (by rw [own_rowOf]; exact hk)).1
            have c9 := Chg.of_grown (S := fun k => rowOf G = some k) hg9 fun k e => e
            have r6 : RB w9 F (encs (vs.take j) ++ encs (vs.drop j)).length (encs (vs.take j) ++ encs (vs.drop j)) := ((RB.of_own o6).below b68).chg c9 fun k hk e => by
              have q1 := hrG k e
              have q2 := (o6.lt k (by rw [own_rowOf]; exact hk)).2
              omega
            have hG := hT6.hold0 b68
            have hT9 := hT8.keep hG (by have := hT6.size; exact this) c9 fun k hk => ⟨hrG k hk, (o7'.lt k (by rw [own_rowOf]; exact hk)).2⟩
            have hl9 : ((encs (vs.take j) ++ encs (vs.drop j)).length : Int) = ((encs (vs.take j)).length : Int) + ((encs (vs.drop j)).length : Int) := by rw [hlen.out]; omega
            have hle9 : (encs (vs.take j)).length + (encs (vs.drop j)).length ≤ 101000 := hle'
            have r6' : RB w9 F ((encs (vs.take j)).length + (encs (vs.drop j)).length) (encs (vs.take j) ++ encs (vs.drop j)) := by rw [← hlen.out]; exact r6
            have r9' : RB w9 Z ((encs (vs.take j)).length + (encs (vs.drop j)).length) (encs (vs.take j) ++ encs (vs.drop j)) := by rw [← hlen.out]; exact RB.of_own o9
            clear hT5 hT6 hT7 hT8 hG c9 hg9 o7' o8 o6 b68 b8 r6 o9
            go_wp2_with (fail)
            refine (equal_any r6' r9' _ _).mono ?_
            rintro e w10 ⟨he, rfl⟩
            rw [heq2.out] at he
            subst he
            go_wp2_with (fail)
            refine (wLen_any _ _ _ _ _ hT9.a.is (by omega)).mono ?_
            rintro e w10 ⟨rfl, rfl⟩
            go_wp2_with (fail)
            refine (wLen_any _ _ _ _ _ hT9.b.is (by omega)).mono ?_
            rintro e w10 ⟨rfl, rfl⟩
            go_wp2_with (fail)
            refine (wLen_any _ _ _ _ _ hT9.c.is (by omega)).mono ?_
            rintro e w10 ⟨rfl, rfl⟩
            go_wp2_with (fail)
            refine (works_any _).mono ?_
            rintro e w11 ⟨rfl, b11⟩
            go_wp2_with (fail)
            go_ret
            exact ⟨rfl, hT9.below.trans (b11.mono (Nat.le_trans hT9.size (Nat.le_refl _)))⟩
  · replace hf := Lib.hid hf
    go_enter Try.func8, Try.ntmps8
    go_wp2_with (fail)
    refine (few_any A n c vs _ h hv hn).mono ?_
    rintro e w1 ⟨he, b1⟩
    rw [hf.out] at he
    subst he
    go_wp2_with (fail)
    refine (works_any _).mono ?_
    rintro e w2 ⟨rfl, b2⟩
    go_wp2_with (fail)
    go_ret
    exact ⟨rfl, b1.trans (b2.mono b1.size)⟩
end Go.Proofs.Ytcapeefhbkgogaa
