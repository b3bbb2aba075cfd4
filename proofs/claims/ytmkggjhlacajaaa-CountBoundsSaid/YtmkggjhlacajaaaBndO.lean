/- CountBounds: a list of moves, as an argument. -/
import Derived.Test.YtmkggjhlacajaaaOpens
import Derived.Test.YtmkggjhlacajaaaBndD
namespace Go.Proofs.Ytmkggjhlacajaaa
open Go.ChangeShapes Go.WideShapes Go.Deep Go.RowKit
set_option linter.unusedVariables false
set_option maxRecDepth 10000
structure Mv where
  k : Nat
  d : Int
def MS (B : Nat) (w : World) (A : Option Addr) (n : Nat) (ms : List Mv) : Prop :=
  ms.length = n ∧ (0 < n → ∃ b o, A = some ⟨b, o, none⟩ ∧ b < B ∧ ∀ i m, ms[i]? = some m →
    w.cell? ⟨b, o + i * 2, none⟩ = some (.int .u8 m.k) ∧ w.cell? ⟨b, o + i * 2 + 1, none⟩ = some (.int .i16 m.d))
theorem MS.below {B : Nat} {w w' : World} {A : Option Addr} {n : Nat} {ms : List Mv} (h : MS B w A n ms) (hb : Below B w w') : MS B w' A n ms :=
  ⟨h.1, fun hn => by
    obtain ⟨b, o, e, hl, hc⟩ := h.2 hn
    refine ⟨b, o, e, hl, fun i v hv => ?_⟩
    obtain ⟨h1, h2⟩ := hc i v hv
    exact ⟨(hb.cell (p := ⟨b, _, none⟩) hl).trans h1, (hb.cell (p := ⟨b, _, none⟩) hl).trans h2⟩⟩
theorem MS.at_ {B : Nat} {w : World} {A : Option Addr} {n : Nat} {ms : List Mv} (h : MS B w A n ms) {i : Nat} (hi : i < n) : ∃ b o m, A = some ⟨b, o, none⟩ ∧ b < B ∧ ms[i]? = some m ∧
    w.cell? ⟨b, o + i * 2, none⟩ = some (.int .u8 m.k) ∧ w.cell? ⟨b, o + i * 2 + 1, none⟩ = some (.int .i16 m.d) := by
  obtain ⟨b, o, e, hl, hc⟩ := h.2 (by omega)
  have hv : ms[i]? = some (ms[i]'(by have := h.1; omega)) := List.getElem?_eq_getElem _
  exact ⟨b, o, _, e, hl, hv, hc i _ hv⟩
theorem MS.low {B : Nat} {w : World} {A : Option Addr} {n c k : Nat} {ms : List Mv} (h : MS B w A n ms) (hk : k ≤ n) (hc : n ≤ c) : ∃ X, sliced A 0 k c 2 = .slice X k c ∧ MS B w X k (ms.take k) := by
  refine ⟨_, rfl, by rw [List.length_take, h.1]; omega, fun hk0 => ?_⟩
  obtain ⟨b, o, e, hl, hx⟩ := h.2 (by omega)
  refine ⟨b, o, ?_, hl, fun i v hv => hx i v ?_⟩
  · rw [if_neg (by omega), e]; rfl
  · rw [List.getElem?_take] at hv
    split at hv
    · exact hv
    · cases hv
theorem blk_add (a : Addr) (n : Nat) : (a.add n).block = a.block := by
  unfold Addr.add; split <;> rfl
theorem mu8_of {n : Int} (h : (Lit.int .u8 n).wf = true) : 0 ≤ n ∧ n < 256 := by
  simp [Lit.wf, IntKind.min, IntKind.max, IntKind.signed, IntKind.bits] at h; omega
theorem mi16_of {n : Int} (h : (Lit.int .i16 n).wf = true) : -32768 ≤ n ∧ n ≤ 32767 := by
  simp [Lit.wf, IntKind.min, IntKind.max, IntKind.signed, IntKind.bits] at h; omega
/-- The numbers of a move are of their sizes. -/
def Mv.Ok (m : Mv) : Prop := m.k < 256 ∧ -32768 ≤ m.d ∧ m.d ≤ 32767
section
variable {H : Type} {enc : TypeId × Value → H} {w : World} {r : Reach} {b0 : Nat}
theorem open_moves {v : Value} {d : DataW H} {p : List MemPlace} (hval : Value.okWide Try.prog w r b0 46 v) (h : DataW.Trod enc Try.prog w 0 (fun _ => true) true 46 v d p) (hw : Weighs Try.prog 46 d) :
    ∃ A n c ms, v = .slice A n c ∧ MS w.heap.size w A n ms ∧ (∀ u ∈ ms, Mv.Ok u) ∧ n ≤ c ∧ n ≤ 70368744177664 := by
  obtain ⟨A, n, c, rfl⟩ := okWide_slice Try.underlying46 hval
  obtain ⟨fuel, hf⟩ := h
  rcases open_slice_fields Try.underlying46 Try.underlying49 (by kernel_rfl) (by kernel_rfl) hf with ⟨hcs, hx⟩ | ⟨a, len, cap, m, D, Pl, hcs, _, hl, hm, hmm, hx, hi⟩
  · simp [Value.cells] at hcs
    obtain ⟨rfl, rfl, rfl⟩ := hcs
    exact ⟨none, 0, 0, [], rfl, ⟨rfl, fun h => absurd h (by omega)⟩, by simp, by omega, by omega⟩
  · simp [Value.cells] at hcs
    obtain ⟨rfl, rfl, rfl⟩ := hcs
    simp only [Prod.mk.injEq] at hx
    obtain ⟨rfl, rfl⟩ := hx
    simp only [if_true] at hmm
    subst hmm
    have hr := reachBytes_lt
    have hsz : n ≤ 70368744177664 := by
      have hwn := hw ((((List.range n).map D).length + ((List.range (m - n)).map fun j => D (n + j)).length) * Try.prog.bytesOf 49) (by
        simp only [DataW.weights, Try.underlying46]
        exact List.mem_cons_self ..)
      rw [show Try.prog.bytesOf 49 = 4 from by kernel_rfl] at hwn
      simp only [List.length_map, List.length_range] at hwn
      omega
    have hel : ∀ i, i < n → ∃ u : Mv, Mv.Ok u ∧ w.cell? (a.add (i * 2)) = some (.int .u8 u.k) ∧ w.cell? (a.add (i * 2 + 1)) = some (.int .i16 u.d) := by
      intro i hin
      obtain ⟨ys, q, hD, _, hyl, hfs⟩ := hi i (by omega)
      obtain ⟨v0, y0, hc0, hy0, t0⟩ := hfs 0 _ rfl
      obtain ⟨v1, y1, hc1, hy1, t1⟩ := hfs 1 _ rfl
      obtain ⟨a0, e0, x0, w0⟩ := DataW.trod_int Try.underlying5 t0
      obtain ⟨a1, e1, x1, w1⟩ := DataW.trod_int Try.underlying39 t1
      simp only [List.cons.injEq, and_true] at e0 e1
      subst e0 e1
      obtain ⟨b1, b2⟩ := mu8_of w0
      obtain ⟨b3, b4⟩ := mi16_of w1
      refine ⟨⟨a0.toNat, a1⟩, ⟨by simp only; omega, b3, b4⟩, ?_, hc1⟩
      rw [show ((a0.toNat : Nat) : Int) = a0 from by omega]; exact hc0
    let F : Nat → Mv := fun i => if hin : i < n then (hel i hin).choose else ⟨0, 0⟩
    have hF : ∀ i (hin : i < n), Mv.Ok (F i) ∧ w.cell? (a.add (i * 2)) = some (.int .u8 (F i).k) ∧ w.cell? (a.add (i * 2 + 1)) = some (.int .i16 (F i).d) := by
      intro i hin
      have := (hel i hin).choose_spec
      simp only [F, dif_pos hin]
      exact this
    refine ⟨some a, n, m, (List.range n).map F, rfl, ⟨by simp, fun hn => ?_⟩, ?_, hl, by omega⟩
    · obtain ⟨_, h0, _⟩ := hF 0 hn
      have hb := World.block_lt_of_cell? w (a.add (0 * 2)) h0
      have hs := World.cell?_spot h0
      rw [blk_add] at hb
      have hsp : a.spot = none := by simpa [Addr.add] using hs
      obtain ⟨ab, ao, asp⟩ := a
      simp only at hsp
      subst hsp
      refine ⟨ab, ao, rfl, hb, fun i u hu => ?_⟩
      have hil := (List.getElem?_eq_some_iff.1 hu).1
      simp only [List.length_map, List.length_range] at hil
      obtain ⟨_, c0, c1⟩ := hF i hil
      rw [Addr.add_lit] at c0 c1
      rw [List.getElem?_map, List.getElem?_range hil] at hu
      simp only [Option.map_some, Option.some.injEq] at hu
      subst hu
      rw [← Nat.add_assoc] at c1
      exact ⟨c0, c1⟩
    · intro u hu
      obtain ⟨i, hi2, rfl⟩ := List.mem_map.1 hu
      exact (hF i (List.mem_range.1 hi2)).1
end
end Go.Proofs.Ytmkggjhlacajaaa
