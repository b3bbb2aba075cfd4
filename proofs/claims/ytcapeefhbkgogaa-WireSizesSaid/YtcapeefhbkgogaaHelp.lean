/- The laws' own helpers on writers: write, put. -/
import Derived.Test.YtcapeefhbkgogaaFew
namespace Go.Proofs.Ytcapeefhbkgogaa
open Go.RowKit
set_option linter.unusedSimpArgs false
set_option linter.unusedVariables false
set_option linter.unusedSectionVars false
set_option maxRecDepth 10000
/-- The bytes of a value. -/
def encV (v : VV) : List UInt8 :=
  if v.k % 4 = 0 then enc v.n else if v.k % 4 = 1 then enc (zig (wrap64 v.n)) else if v.k % 4 = 2 then enc v.s.size ++ v.s.data.toList else enc (v.n % 2)
def VV.val (v : VV) : Value := .agg #[.int .u8 v.k, .int .u64 v.n, .string v.s]
theorem wrap64_in (n : Int) : -9223372036854775808 ≤ wrap64 n ∧ wrap64 n ≤ 9223372036854775807 := by unfold wrap64; omega
theorem boolN (n : Nat) : (if ((n : Int) % 2 == 1) = true then 1 else 0) = n % 2 := by
  by_cases h : n % 2 = 1
  · rw [if_pos (by simp; omega), h]
  · rw [if_neg (by simp; omega)]; omega
/-- Two writers with the same bytes. -/
structure Two (B : Nat) (w W : World) (g1 : Nat) (A1 : Option Addr) (c1 : Nat) (g2 : Nat) (A2 : Option Addr) (c2 : Nat) (xs : List UInt8) : Prop where
  a : WrO 46 B W g1 A1 c1 xs
  b : WrO 71 B W g2 A2 c2 xs
  ne : ∀ k, rowOf A1 = some k → rowOf A2 ≠ some k
  below : Below B w W
theorem WrO.below {T : TypeId} {B : Nat} {W W' : World} {g c : Nat} {A : Option Addr} {xs : List UInt8} (h : WrO T B W g A c xs) (hb : Below W.heap.size W W') : WrO T B W' g A c xs := ⟨h.is.below hb, h.low, h.row⟩
/-- The other writer is as it was. -/
theorem IsWr.other {T T' : TypeId} {W W' : World} {g c g' : Nat} {A A' : Option Addr} {xs : List UInt8} (h : IsWr T W g A c xs) (hT : T ≠ 5) (hc : Chg (wrS g' A') W W') (hg : g ≠ g') (hx : ∀ k, rowOf A' = some k → rowOf A ≠ some k)
    {cs : Array Value} (hg' : W.heap[g']? = some (.cells cs T' (0, 0))) (hT' : T' ≠ 5) {c' : Nat} {xs' : List UInt8} (h' : IsWr T' W g' A' c' xs') : IsWr T W' g A c xs := by
  refine h.keep hc ?_ ?_
  · rintro (e | e)
    · exact hg e
    · exact h'.rowNe hT' h.blk hT e
  · rintro k hk (e | e)
    · subst e; exact h.rowNe hT hg' hT' hk
    · exact hx k e hk
theorem Moved.ne {W : World} {A A' A2 : Option Addr} (hm : Moved W A A') (h : ∀ k, rowOf A = some k → rowOf A2 ≠ some k) (hl : ∀ k, rowOf A2 = some k → k < W.heap.size) : ∀ k, rowOf A' = some k → rowOf A2 ≠ some k := by
  intro k hk e
  rcases hm with e1 | ⟨k', e1, e2⟩
  · exact h k (e1.symm.trans hk) e
  · rw [hk] at e1; injection e1 with e1; have := hl k e; omega
theorem Two.stepA {B : Nat} {w W W' : World} {g1 c1 g2 c2 : Nat} {A1 A2 : Option Addr} {xs ys : List UInt8} (h : Two B w W g1 A1 c1 g2 A2 c2 xs) (hB : B ≤ W.heap.size) (ht : WrTo 46 W g1 A1 ys W') :
    ∃ A' c', WrO 46 B W' g1 A' c' ys ∧ WrO 71 B W' g2 A2 c2 xs ∧ (∀ k, rowOf A' = some k → rowOf A2 ≠ some k) ∧ Below B w W' := by
  obtain ⟨A', c', o, hb⟩ := h.a.step h.below hB ht
  obtain ⟨A'', c'', i, m, ch⟩ := ht
  have hne : g2 ≠ g1 := by
    rintro rfl
    have := h.a.is.blk.symm.trans h.b.is.blk
    injection this with this; injection this with _ this; exact absurd this (by decide)
  have hA : A'' = A' := by
    have := i.blk.symm.trans o.is.blk
    simp only [Option.some.injEq, Obj.cells.injEq] at this
    have h2 := this.1
    simp at h2
    exact h2.1
  subst hA
  exact ⟨A'', c', o, ⟨h.b.is.other (by decide) ch hne h.ne h.a.is.blk (by decide) h.a.is, h.b.low, h.b.row⟩, m.ne h.ne (fun k hk => h.b.is.rowLt hk), hb⟩
theorem Two.stepB {B : Nat} {w W W' : World} {g1 c1 g2 c2 : Nat} {A1 A2 : Option Addr} {xs ys : List UInt8} (h1 : WrO 46 B W g1 A1 c1 ys) (h2 : WrO 71 B W g2 A2 c2 xs) (hx : ∀ k, rowOf A1 = some k → rowOf A2 ≠ some k) (hb : Below B w W)
    (hB : B ≤ W.heap.size) (ht : WrTo 71 W g2 A2 ys W') : ∃ A' c', Two B w W' g1 A1 c1 g2 A' c' ys := by
  obtain ⟨A', c', o, hb'⟩ := h2.step hb hB ht
  obtain ⟨A'', c'', i, m, ch⟩ := ht
  have hne : g1 ≠ g2 := by
    rintro rfl
    have := h1.is.blk.symm.trans h2.is.blk
    injection this with this; injection this with _ this; exact absurd this (by decide)
  have hA : A'' = A' := by
    have := i.blk.symm.trans o.is.blk
    simp only [Option.some.injEq, Obj.cells.injEq] at this
    have h2 := this.1
    simp at h2
    exact h2.1
  subst hA
  have hx' : ∀ k, rowOf A2 = some k → rowOf A1 ≠ some k := fun k e e' => hx k e' e
  exact ⟨A'', c', ⟨h1.is.other (by decide) ch hne hx' h2.is.blk (by decide) h2.is, h1.low, h1.row⟩, o, fun k e e' => (m.ne hx' (fun k hk => h1.is.rowLt hk)) k e' e, hb'⟩
theorem Two.belowW {B : Nat} {w W W' : World} {g1 c1 g2 c2 : Nat} {A1 A2 : Option Addr} {xs : List UInt8} (h : Two B w W g1 A1 c1 g2 A2 c2 xs) (hB : B ≤ W.heap.size) (hb : Below W.heap.size W W') : Two B w W' g1 A1 c1 g2 A2 c2 xs :=
  ⟨h.a.below hb, h.b.below hb, h.ne, h.below.trans (hb.mono hB)⟩
def TwoTo (B : Nat) (w : World) (g1 g2 : Nat) (ys : List UInt8) (W' : World) : Prop := ∃ A1 c1 A2 c2, Two B w W' g1 A1 c1 g2 A2 c2 ys
set_option maxHeartbeats 4000000 in
theorem write_any {B : Nat} {w W : World} {g1 c1 g2 c2 : Nat} {A1 A2 : Option Addr} {xs : List UInt8} (h0 : Two B w W g1 A1 c1 g2 A2 c2 xs) (hB0 : B ≤ W.heap.size) (hl : xs.length ≤ 1000000) (v : VV) (hv : v.Ok) (hs : v.s.size ≤ 1000000) :
    Calls Try.prog 16 #[.pointer (some ⟨g1, 0, none⟩), .pointer (some ⟨g2, 0, none⟩), .agg #[.int .u8 v.k, .int .u64 v.n, .string v.s]] W fun e w' => e = .returned (.tuple #[]) ∧ TwoTo B w g1 g2 (xs ++ encV v) w' := by
  have hk := hv.k
  have h := h0.belowW hB0 ((Below.refl _ W).alloc (Nat.le_refl _) (.cells #[.int .u8 v.k, .int .u64 v.n, .string v.s] 31))
  have hB : B ≤ (W.alloc (.cells #[.int .u8 v.k, .int .u64 v.n, .string v.s] 31)).heap.size := by simp; omega
  have hgx : W.heap.size ≠ g1 ∧ W.heap.size ≠ g2 := ⟨by have := h0.a.is.lt; omega, by have := h0.b.is.lt; omega⟩
  have hor : v.k % 4 = 0 ∨ v.k % 4 = 1 ∨ v.k % 4 = 2 ∨ v.k % 4 = 3 := by omega
  clear h0
  rcases hor with hq | hq | hq | hq
  · have hen : encV v = enc v.n := by unfold encV; simp [hq]
    replace hen := Lib.hid hen
    have b0 : ((v.k : Int) % 4 == 0) = true := by simp; omega
    have b1 : ((v.k : Int) % 4 == 1) = false := by simp; omega
    have b2 : ((v.k : Int) % 4 == 2) = false := by simp; omega
    have b3 : ((v.k : Int) % 4 == 3) = false := by simp; omega
    clear hq hk
    go_enter Try.func16, Try.ntmps16
    go_wp2_with (fail)
    refine (wUint_any g1 A1 c1 xs v.n _ h.a.is hv.n hl).mono ?_
    rintro e w1 ⟨rfl, t1⟩
    have t2 := t1.choose_spec.choose_spec.2.2
    have k1 : w1.heap[W.heap.size]? = some (.cells #[.int .u8 v.k, .int .u64 v.n, .string v.s] 31 (0, 0)) := by
      refine (t2.block _ (by simp) ?_).trans (heap_alloc_new W _)
      rintro (e | e)
      · exact hgx.1 e
      · exact h.a.is.rowNe (by decide) (heap_alloc_new W _) (by decide) e
    have j0 := blkC k1 0
    have j1 : w1.cell? ⟨W.heap.size, 1, none⟩ = some (.int .u64 v.n) := blkC k1 1
    have j2 : w1.cell? ⟨W.heap.size, 2, none⟩ = some (.string v.s) := blkC k1 2
    have hB1 : B ≤ w1.heap.size := Nat.le_trans hB t2.size
    obtain ⟨A3, c3, o1, o2, hx, hb⟩ := h.stepA hB t1
    clear t1 t2 k1 j0 h
    go_wp2_with (fail)
    refine (rUint_any g2 A2 c2 xs _ o2.is hl v.n hv.n).mono ?_
    rintro e w2 ⟨rfl, t3⟩
    obtain ⟨A4, c4, h4⟩ := Two.stepB o1 o2 hx hb hB1 t3
    go_wp2_with (fail)
    go_end0
    exact ⟨rfl, A3, c3, A4, c4, by rw [hen.out]; exact h4⟩
  · have hen : encV v = enc (zig (wrap64 v.n)) := by unfold encV; simp [hq]
    replace hen := Lib.hid hen
    have b0 : ((v.k : Int) % 4 == 0) = false := by simp; omega
    have b1 : ((v.k : Int) % 4 == 1) = true := by simp; omega
    have b2 : ((v.k : Int) % 4 == 2) = false := by simp; omega
    have b3 : ((v.k : Int) % 4 == 3) = false := by simp; omega
    clear hq hk
    go_enter Try.func16, Try.ntmps16
    go_wp2_with (fail)
    refine (wInt_any g1 A1 c1 xs _ h.a.is hl (wrap64 v.n) (wrap64_in _).1 (wrap64_in _).2).mono ?_
    rintro e w1 ⟨rfl, t1⟩
    have t2 := t1.choose_spec.choose_spec.2.2
    have k1 : w1.heap[W.heap.size]? = some (.cells #[.int .u8 v.k, .int .u64 v.n, .string v.s] 31 (0, 0)) := by
      refine (t2.block _ (by simp) ?_).trans (heap_alloc_new W _)
      rintro (e | e)
      · exact hgx.1 e
      · exact h.a.is.rowNe (by decide) (heap_alloc_new W _) (by decide) e
    have j0 := blkC k1 0
    have j1 : w1.cell? ⟨W.heap.size, 1, none⟩ = some (.int .u64 v.n) := blkC k1 1
    have j2 : w1.cell? ⟨W.heap.size, 2, none⟩ = some (.string v.s) := blkC k1 2
    have hB1 : B ≤ w1.heap.size := Nat.le_trans hB t2.size
    obtain ⟨A3, c3, o1, o2, hx, hb⟩ := h.stepA hB t1
    clear t1 t2 k1 j0 h
    go_wp2_with (fail)
    refine (rInt_any g2 A2 c2 xs _ o2.is hl (wrap64 v.n) (wrap64_in _).1 (wrap64_in _).2).mono ?_
    rintro e w2 ⟨rfl, t3⟩
    obtain ⟨A4, c4, h4⟩ := Two.stepB o1 o2 hx hb hB1 t3
    go_wp2_with (fail)
    go_end0
    exact ⟨rfl, A3, c3, A4, c4, by rw [hen.out]; exact h4⟩
  · have hen : encV v = enc v.s.size ++ v.s.data.toList := by unfold encV; simp [hq]
    replace hen := Lib.hid hen
    have b0 : ((v.k : Int) % 4 == 0) = false := by simp; omega
    have b1 : ((v.k : Int) % 4 == 1) = false := by simp; omega
    have b2 : ((v.k : Int) % 4 == 2) = true := by simp; omega
    have b3 : ((v.k : Int) % 4 == 3) = false := by simp; omega
    clear hq hk
    go_enter Try.func16, Try.ntmps16
    go_wp2_with (fail)
    refine (wText_any g1 A1 c1 xs _ h.a.is hl v.s hs).mono ?_
    rintro e w1 ⟨rfl, t1⟩
    have t2 := t1.choose_spec.choose_spec.2.2
    have k1 : w1.heap[W.heap.size]? = some (.cells #[.int .u8 v.k, .int .u64 v.n, .string v.s] 31 (0, 0)) := by
      refine (t2.block _ (by simp) ?_).trans (heap_alloc_new W _)
      rintro (e | e)
      · exact hgx.1 e
      · exact h.a.is.rowNe (by decide) (heap_alloc_new W _) (by decide) e
    have j0 := blkC k1 0
    have j1 : w1.cell? ⟨W.heap.size, 1, none⟩ = some (.int .u64 v.n) := blkC k1 1
    have j2 : w1.cell? ⟨W.heap.size, 2, none⟩ = some (.string v.s) := blkC k1 2
    have hB1 : B ≤ w1.heap.size := Nat.le_trans hB t2.size
    obtain ⟨A3, c3, o1, o2, hx, hb⟩ := h.stepA hB t1
    clear t1 t2 k1 j0 h
    go_wp2_with (fail)
    refine (rText_any g2 A2 c2 xs _ o2.is hl v.s hs).mono ?_
    rintro e w2 ⟨rfl, t3⟩
    obtain ⟨A4, c4, h4⟩ := Two.stepB o1 o2 hx hb hB1 t3
    go_wp2_with (fail)
    go_end0
    exact ⟨rfl, A3, c3, A4, c4, by rw [hen.out]; rw [← List.append_assoc]; exact h4⟩
  · have hen : encV v = enc (v.n % 2) := by unfold encV; simp [hq]
    replace hen := Lib.hid hen
    have b0 : ((v.k : Int) % 4 == 0) = false := by simp; omega
    have b1 : ((v.k : Int) % 4 == 1) = false := by simp; omega
    have b2 : ((v.k : Int) % 4 == 2) = false := by simp; omega
    have b3 : ((v.k : Int) % 4 == 3) = true := by simp; omega
    clear hq hk
    go_enter Try.func16, Try.ntmps16
    go_wp2_with (fail)
    refine (wBool_any g1 A1 c1 xs _ h.a.is hl ((v.n : Int) % 2 == 1)).mono ?_
    rintro e w1 ⟨rfl, t1⟩
    have t2 := t1.choose_spec.choose_spec.2.2
    have k1 : w1.heap[W.heap.size]? = some (.cells #[.int .u8 v.k, .int .u64 v.n, .string v.s] 31 (0, 0)) := by
      refine (t2.block _ (by simp) ?_).trans (heap_alloc_new W _)
      rintro (e | e)
      · exact hgx.1 e
      · exact h.a.is.rowNe (by decide) (heap_alloc_new W _) (by decide) e
    have j0 := blkC k1 0
    have j1 : w1.cell? ⟨W.heap.size, 1, none⟩ = some (.int .u64 v.n) := blkC k1 1
    have j2 : w1.cell? ⟨W.heap.size, 2, none⟩ = some (.string v.s) := blkC k1 2
    have hB1 : B ≤ w1.heap.size := Nat.le_trans hB t2.size
    obtain ⟨A3, c3, o1, o2, hx, hb⟩ := h.stepA hB t1
    clear t1 t2 k1 j0 h
    go_wp2_with (fail)
    refine (rBool_any g2 A2 c2 xs _ o2.is hl ((v.n : Int) % 2 == 1)).mono ?_
    rintro e w2 ⟨rfl, t3⟩
    obtain ⟨A4, c4, h4⟩ := Two.stepB o1 o2 hx hb hB1 t3
    go_wp2_with (fail)
    go_end0
    exact ⟨rfl, A3, c3, A4, c4, by rw [hen.out]; rw [boolN] at h4; exact h4⟩
end Go.Proofs.Ytcapeefhbkgogaa
