/- Two readers of the program's, and a box; a slice's front. -/
import Derived.Test.YtcapeefhbkgogaaBackL
import Derived.Test.YtcapeefhbkgogaaBehindW
namespace Go.Proofs.Ytcapeefhbkgogaa
open Go.RowKit
set_option linter.unusedSimpArgs false
set_option linter.unusedVariables false
set_option linter.unusedSectionVars false
set_option maxRecDepth 10000
/-- Two readers of the call's own, and a box that holds a value. -/
structure G2 (B : Nat) (w W : World) (g1 : Nat) (A1 : Option Addr) (c1 : Nat) (s1 : RS) (g2 : Nat) (A2 : Option Addr) (c2 : Nat) (s2 : RS) : Prop where
  a : RdO B W g1 A1 c1 s1
  b : RdO B W g2 A2 c2 s2
  ne : g1 ≠ g2
  below : Below B w W
section
variable {B : Nat} {w W W' : World} {g1 c1 g2 c2 : Nat} {A1 A2 : Option Addr} {s1 s2 s' : RS}
theorem G2.rot (h : G2 B w W g1 A1 c1 s1 g2 A2 c2 s2) : G2 B w W g2 A2 c2 s2 g1 A1 c1 s1 := ⟨h.b, h.a, h.ne.symm, h.below⟩
theorem G2.size (h : G2 B w W g1 A1 c1 s1 g2 A2 c2 s2) : B ≤ W.heap.size := by
  have := h.a.is.lt; have := h.a.low; omega
theorem G2.belowW (h : G2 B w W g1 A1 c1 s1 g2 A2 c2 s2) (hb : Below W.heap.size W W') : G2 B w W' g1 A1 c1 s1 g2 A2 c2 s2 :=
  ⟨⟨h.a.is.below hb, h.a.low⟩, ⟨h.b.is.below hb, h.b.low⟩, h.ne, h.below.trans (hb.mono h.size)⟩
theorem G2.step (h : G2 B w W g1 A1 c1 s1 g2 A2 c2 s2) (ht : RdTo W g1 s' W') : ∃ A' c', G2 B w W' g1 A' c' s' g2 A2 c2 s2 := by
  obtain ⟨A', c', o, hb⟩ := h.a.step h.below h.size ht
  obtain ⟨A'', c'', i, ch⟩ := ht
  exact ⟨A', c', o, ⟨h.b.is.other h.a.is.blk (rd_noByte _ _ _ _) ch h.ne.symm, h.b.low⟩, h.ne, hb⟩
/-- The same, with the box. -/
def G2B (B : Nat) (w : World) (g1 : Nat) (s1 : RS) (g2 : Nat) (s2 : RS) (bx : Nat) (v : VV) (W : World) : Prop :=
  (∃ A1 c1 A2 c2, G2 B w W g1 A1 c1 s1 g2 A2 c2 s2) ∧ W.heap[bx]? = some (.cells #[.int .u8 v.k, .int .u64 v.n, .string v.s] 31 (0, 0))
theorem G2B.drew {bx : Nat} {v : VV} (h : G2B B w g1 s1 g2 s2 bx v W) : G2B B w g1 s1 g2 s2 bx v W.drew := by
  obtain ⟨⟨A1, c1, A2, c2, q⟩, e⟩ := h
  have hb : Below W.heap.size W W.drew := Below.drew (Below.refl _ _)
  exact ⟨⟨A1, c1, A2, c2, q.belowW hb⟩, e⟩
theorem G2B.getA {bx : Nat} {v u : VV} (h : G2B B w g1 s1 g2 s2 bx v W) (hs : getS s1 v.k = s') (hu : getV s1 v.k = u) (hk : v.k < 256) :
    Calls Try.prog 40 #[.pointer (some ⟨g1, 0, none⟩), .int .u8 v.k] W fun e w' => e = .returned (.agg #[.int .u8 u.k, .int .u64 u.n, .string u.s]) ∧ G2B B w g1 s' g2 s2 bx v w' := by
  subst hs hu
  obtain ⟨⟨A1, c1, A2, c2, q⟩, e⟩ := h
  refine (get_any q.a.is v.k hk).mono ?_
  rintro _ w' ⟨rfl, t⟩
  obtain ⟨A', c', q'⟩ := q.step t
  refine ⟨rfl, ⟨_, _, _, _, q'⟩, ?_⟩
  obtain ⟨_, _, _, ch⟩ := t
  refine (ch.block bx (blkX e) ?_).trans e
  rintro rfl
  have := e.symm.trans q.a.is.blk
  injection this with this; injection this with _ this; exact absurd this (by decide)
theorem G2B.rot {bx : Nat} {v : VV} (h : G2B B w g1 s1 g2 s2 bx v W) : G2B B w g2 s2 g1 s1 bx v W := by
  obtain ⟨⟨A1, c1, A2, c2, q⟩, e⟩ := h
  exact ⟨⟨_, _, _, _, q.rot⟩, e⟩
theorem G2B.getB {bx : Nat} {v u : VV} (h : G2B B w g1 s1 g2 s2 bx v W) (hs : getS s2 v.k = s') (hu : getV s2 v.k = u) (hk : v.k < 256) :
    Calls Try.prog 40 #[.pointer (some ⟨g2, 0, none⟩), .int .u8 v.k] W fun e w' => e = .returned (.agg #[.int .u8 u.k, .int .u64 u.n, .string u.s]) ∧ G2B B w g1 s1 g2 s' bx v w' :=
  (h.rot.getA hs hu hk).mono fun e w' q => ⟨q.1, q.2.rot⟩
theorem G2B.plain {bx : Nat} {v : VV} (h : G2B B w g1 s1 g2 s2 bx v W) (hv : v.Ok) :
    Calls Try.prog 41 #[.agg #[.int .u8 v.k, .int .u64 v.n, .string v.s]] W fun e w' => e = .returned (.agg #[.int .u8 (plainV v).k, .int .u64 (plainV v).n, .string (plainV v).s]) ∧ G2B B w g1 s1 g2 s2 bx v w' := by
  obtain ⟨⟨A1, c1, A2, c2, q⟩, e⟩ := h
  refine (plain_any v hv W).mono ?_
  rintro _ w' ⟨rfl, hb⟩
  exact ⟨rfl, ⟨_, _, _, _, q.belowW hb⟩, (hb.block bx (blkX e)).trans e⟩
end
theorem RB.low {w : World} {A : Option Addr} {n c k : Nat} {xs : List UInt8} (h : RB w A n xs) (hk : k ≤ n) : ∃ X, sliced A 0 k c 1 = .slice X k c ∧ RB w X k (xs.take k) := by
  refine ⟨_, rfl, ?_⟩
  have h0 := h.first hk
  split
  · exact h0
  · refine ⟨h0.1, fun hk0 => ?_⟩
    obtain ⟨ad, e, hb, hc⟩ := h0.2 hk0
    refine ⟨ad, ?_, hb, hc⟩
    rw [e]
    have e0 : ad.add 0 = ad := by
      obtain ⟨b, o, pth⟩ := ad
      cases pth <;> simp [Addr.add]
    simp [e0]
theorem own_cap {W : World} {base n c : Nat} {A : Option Addr} {bs : List Value} (o : W.ownsRow base 5 1 (.slice A n c) n bs) : n ≤ c := by
  rcases o.2 with ⟨e, e2⟩ | ⟨k, cp, cur, e, _, _, hle, _⟩
  · omega
  · simp only [Value.slice.injEq] at e
    omega
end Go.Proofs.Ytcapeefhbkgogaa
