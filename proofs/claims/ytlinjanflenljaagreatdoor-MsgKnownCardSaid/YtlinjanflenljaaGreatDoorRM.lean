/- Numbers and ballots that are read. -/
import Derived.Test.YtlinjanflenljaaGreatDoorRd
import Derived.Test.YtlinjanflenljaaGreatDoorMsgP
import Derived.Test.YtlinjanflenljaaGreatDoorWB
import Derived.OrdersHeld
import Derived.Deep.RegionHeld
namespace Go.Proofs.YtlinjanflenljaaGreatDoor
open Go.RowKit
set_option linter.unusedSimpArgs false
set_option linter.unusedVariables false
set_option linter.unusedSectionVars false
set_option maxRecDepth 10000
theorem RdTo.then {w w1 w2 : World} {g : Nat} {s : RS} (hc : Chg (fun k => k = g) w w1) (h : RdTo w1 g s w2) : RdTo w g s w2 := by
  obtain ⟨A', c', h1, h2⟩ := h
  exact ⟨A', c', h1, hc.trans h2 fun _ _ e => e⟩
theorem RdTo.keepB {w w1 w2 : World} {g : Nat} {s : RS} (h : RdTo w g s w1) (hb : Below w1.heap.size w1 w2) : RdTo w g s w2 := by
  obtain ⟨A', c', h1, h2⟩ := h
  exact ⟨A', c', h1.below hb, h2.thenB hb⟩
/-- What a reader's call leaves of another block. -/
theorem RdTo.blk {w w1 : World} {g b : Nat} {s : RS} {o : Obj} (h : RdTo w g s w1) (hb : w.heap[b]? = some o) (hne : b ≠ g) : w1.heap[b]? = some o := by
  obtain ⟨A', c', _, h2⟩ := h
  have hlt : b < w.heap.size := by
    rcases Nat.lt_or_ge b w.heap.size with q | q
    · exact q
    · rw [Array.getElem?_eq_none q] at hb; cases hb
  exact (h2.block b hlt hne).trans hb
theorem rdU_64 (s : RS) : (rdU s).1 < 18446744073709551616 := by
  match s with
  | none => simp [rdU]
  | some b =>
    rcases dec_or b with hd | ⟨v, k, hd⟩
    · rw [rdU_bad hd]; simp
    · rw [rdU_ok hd]; exact (dec_sound hd).1
section
variable {w : World} {g c : Nat} {A : Option Addr} {s : RS}
set_option maxHeartbeats 4000000 in
theorem small_any (h : IsRd w g A c s) : Calls Tryz.prog 29 #[.pointer (some ⟨g, 0, none⟩)] w fun e w' => e = .returned (.int .i64 (pSm s).1) ∧ RdTo w g (pSm s).2 w' := by
  have hu := rdUint_any s h
  have h64 := rdU_64 s
  by_cases hb : 2147483647 < (rdU s).1
  · have hp := Lib.hid (show pSm s = (0, none) from by unfold pSm; rw [if_pos hb])
    have hb2 : (2147483647 : Int) < ((rdU s).1 : Int) := by omega
    generalize (rdU s).1 = n at *
    generalize (rdU s).2 = s1 at *
    clear hb
    go_enter Tryz.func29, Tryz.ntmps29
    go_wp2_with (fail)
    refine hu.mono ?_
    rintro e w1 ⟨rfl, A1, c1, h1, k1⟩
    have hf := fail_p h1
    replace k1 := Lib.hid k1; replace h1 := Lib.hid h1
    go_wp2_with (fail)
    refine hf.mono ?_
    rintro e w2 ⟨rfl, t2⟩
    have t3 := Lib.hid (RdTo.then k1.out t2)
    clear t2
    go_wp2_with (fail)
    go_ret
    exact ⟨by rw [hp.out]; rfl, by rw [hp.out]; exact t3.out⟩
  · have hp := Lib.hid (show pSm s = (((rdU s).1 : Int), (rdU s).2) from by unfold pSm; rw [if_neg hb])
    have hb2 : ¬ (2147483647 : Int) < ((rdU s).1 : Int) := by omega
    have hw : IntKind.i64.wrap ((rdU s).1 : Int) = ((rdU s).1 : Int) := by simp [IntKind.wrap, IntKind.signed, IntKind.bits]; omega
    generalize (rdU s).1 = n at *
    generalize (rdU s).2 = s1 at *
    clear hb
    go_enter Tryz.func29, Tryz.ntmps29
    go_wp2_with (fail)
    refine hu.mono ?_
    rintro e w1 ⟨rfl, t1⟩
    replace t1 := Lib.hid t1
    go_wp2_with (fail)
    go_ret
    exact ⟨by rw [hp.out]; rfl, by rw [hp.out]; exact t1.out⟩
theorem pSm_le (s : RS) : 0 ≤ (pSm s).1 ∧ (pSm s).1 ≤ 2147483647 := by
  unfold pSm; split
  · simp
  · simp only; omega
set_option maxHeartbeats 4000000 in
theorem readBallot_any (h : IsRd w g A c s) : Calls Tryz.prog 64 #[.pointer (some ⟨g, 0, none⟩)] w fun e w' => e = .returned (.agg #[.int .i64 (pSm s).1, .int .i64 (pSm (pSm s).2).1]) ∧ RdTo w g (pSm (pSm s).2).2 w' := by
  have hb0 := (Below.refl _ w).alloc (Nat.le_refl _) (.cells #[.int .i64 0, .int .i64 0] 25)
  have h0 := h.below hb0
  have hlt := h.lt
  have hs1 := small_any h0
  obtain ⟨x1, hx1⟩ : ∃ x, x = (pSm s).1 := ⟨_, rfl⟩
  obtain ⟨x2, hx2⟩ : ∃ x, x = (pSm (pSm s).2).1 := ⟨_, rfl⟩
  rw [← hx1] at hs1
  have hr1 := Lib.hid hx1; have hr2 := Lib.hid hx2
  replace hb0 := Lib.hid hb0; replace hx1 := Lib.hid hx1; replace hx2 := Lib.hid hx2
  go_enter Tryz.func64, Tryz.ntmps64
  go_wp2_with (fail)
  refine hs1.mono ?_
  rintro e w1 ⟨rfl, t1⟩
  have g1 := t1.blk (hpNew w _) (by omega)
  obtain ⟨A1, c1, h1, k1⟩ := t1
  have hs2 := small_any h1
  rw [← hx2.out] at hs2
  replace k1 := Lib.hid k1; replace h1 := Lib.hid h1; replace g1 := Lib.hid g1
  go_wp2_with (fail)
  refine hs2.mono ?_
  rintro e w2 ⟨rfl, t2⟩
  have g2 := t2.blk g1.out (by omega)
  have q0 := blkC g2 0; have q1 := blkC g2 1; have f2 := blkF g2; have l2 := blkX g2
  simp only [List.getElem?_toArray, List.getElem?_cons_zero, List.getElem?_cons_succ] at q0 q1
  obtain ⟨A2, c2, h2, k2⟩ := RdTo.then k1.out t2
  have kk : Chg (fun k => k = g) w w2 := (Chg.of_below hb0.out _).trans k2 fun _ _ e => e
  have h3 : RdTo w g (pSm (pSm s).2).2 ((w2.setCell ⟨w.heap.size, 0, none⟩ (.int .i64 x1)).setCell ⟨w.heap.size, 1, none⟩ (.int .i64 x2)) :=
    ⟨A2, c2, (h2.keep ((setG w2 w.heap.size 0 _).trans (setG _ w.heap.size 1 _) fun _ _ e => e) (by omega) (fun k hk => by have := h2.old k hk; omega)), (kk.setCell (p := ⟨w.heap.size, 0, none⟩) (fun q => absurd q (Nat.lt_irrefl _)) _).setCell (p := ⟨w.heap.size, 1, none⟩) (fun q => absurd q (Nat.lt_irrefl _)) _⟩
  replace h3 := Lib.hid h3; replace h2 := Lib.hid h2; replace g2 := Lib.hid g2; replace kk := Lib.hid kk
  clear t2 k2
  go_wp2_with (fail)
  refine bodyPost_ret (by simp [results, Tryz.results64, go_sem, *]; try with_reducible rfl) rfl ?_
  exact ⟨by rw [← hr1.out, ← hr2.out], h3.out⟩
end
end Go.Proofs.YtlinjanflenljaaGreatDoor

namespace Go.Proofs.YtlinjanflenljaaGreatDoor
open Go.RowKit
set_option linter.unusedSimpArgs false
set_option linter.unusedVariables false
set_option linter.unusedSectionVars false
set_option maxRecDepth 10000
theorem elemEnt : Elem Tryz.prog 26 45 4 40 := elem_of (z := .agg #[.int .i64 0, .int .i64 0, .int .i64 0, .string ⟨#[]⟩]) Tryz.underlying26 (by kernel_rfl) rfl (by omega)
theorem own_stay {w w' : World} {B e size n : Nat} {A : Option Addr} {c : Nat} {xs : List Value} (h : w.ownsRow B e size (.slice A n c) n xs) (hb : ∀ k, rowOf A = some k → w'.heap[k]? = w.heap[k]?) : w'.ownsRow B e size (.slice A n c) n xs := by
  refine ⟨h.1, ?_⟩
  rcases h.2 with e | ⟨k, cp, cur, e, hbk, hh, rest⟩
  · exact .inl e
  · refine .inr ⟨k, cp, cur, e, hbk, ?_, rest⟩
    injection e with e1
    subst e1
    exact (hb k rfl).trans hh
theorem own_ty {w : World} {B e size n E : Nat} {A : Option Addr} {c : Nat} {xs : List Value} {cs : Array Value} {t : TypeId} (h : w.ownsRow B e size (.slice A n c) n xs) (hE : w.heap[E]? = some (.cells cs t (0, 0))) (ht : t ≠ e) : ∀ k, rowOf A = some k → k ≠ E := by
  intro k hk q
  subst q
  rcases h.2 with ⟨e2, _⟩ | ⟨k2, cp, cur, e2, _, hh, _⟩
  · injection e2 with e2; subst e2; cases hk
  · injection e2 with e2
    subst e2
    have e3 : k2 = k := Option.some.inj hk
    subst e3
    rw [hE] at hh
    injection hh with hh
    injection hh with _ ht2
    exact ht ht2
/-- The cells of a message. -/
def mCells (m : Mg) (A : Option Addr) (c : Nat) : Array Value := #[.int .i64 m.k, .int .i64 m.fr, .int .i64 m.tt, .int .i64 m.ro, .int .i64 m.no, .int .i64 m.sl, .int .i64 m.nu, .string (sOf m.v), .slice A m.l.length c]
/-- A reader, the message that is read into, and blocks beside them. -/
structure RM (w0 : World) (g : Nat) (s : RS) (gm : Nat) (m : Mg) (A : Option Addr) (c : Nat) (ks : List Kp) (W : World) : Prop where
  bg : w0.heap.size ≤ g
  ggm : g < gm
  bel : Below w0.heap.size w0 W
  rd : ∃ A' c', IsRd W g A' c' s
  ms : W.heap[gm]? = some (.cells (mCells m A c) 28 (0, 0))
  own : W.ownsRow w0.heap.size 45 4 (.slice A m.l.length c) m.l.length (flat encEnt m.l)
  ks : ∀ x ∈ ks, W.heap[x.1]? = some (.cells x.2.1 x.2.2 (0, 0)) ∧ g < x.1 ∧ x.1 ≠ gm ∧ ∀ k, rowOf A = some k → k ≠ x.1
section
variable {w0 W W' : World} {g gm c : Nat} {s s' : RS} {m m' : Mg} {A : Option Addr} {ks : List Kp}
theorem RM.to (h : RM w0 g s gm m A c ks W) (ht : RdTo W g s' W') : RM w0 g s' gm m A c ks W' := by
  obtain ⟨A0, c0, hi⟩ := h.rd
  have hg := hi.blk
  obtain ⟨A', c', hi', hch⟩ := ht
  have hne := own_ty h.own hg (show 91 ≠ 45 from by decide)
  refine ⟨h.bg, h.ggm, hch.belowAfter h.bel h.bel.size (fun k hk e => by have := h.bg; omega), ⟨A', c', hi'⟩, (hch.block gm (blkX h.ms) (by have := h.ggm; omega)).trans h.ms, own_stay h.own fun k hk => hch.block k ((h.own.lt k (by rw [own_rowOf]; exact hk)).2) (hne k hk), fun x hx => ?_⟩
  obtain ⟨h1, h2⟩ := h.ks x hx
  exact ⟨(hch.block _ (blkX h1) (by omega)).trans h1, h2⟩
theorem RM.step (h : RM w0 g s gm m A c ks W) {f : Nat} {args : Array Value} {R : Ending} (hc : ∀ A c, IsRd W g A c s → Calls Tryz.prog f args W fun e w' => e = R ∧ RdTo W g s' w') : Calls Tryz.prog f args W fun e w' => e = R ∧ RM w0 g s' gm m A c ks w' := by
  obtain ⟨A0, c0, hi⟩ := h.rd
  exact (hc A0 c0 hi).mono fun e w' ⟨he, ht⟩ => ⟨he, h.to ht⟩
theorem RM.keep (h : RM w0 g s gm m A c ks W) (hb : Below W.heap.size W W') : RM w0 g s gm m A c ks W' := by
  obtain ⟨A0, c0, hi⟩ := h.rd
  exact ⟨h.bg, h.ggm, h.bel.trans (hb.mono h.bel.size), ⟨A0, c0, hi.below hb⟩, (hb.block _ (blkX h.ms)).trans h.ms, own_stay h.own fun k hk => hb.block k ((h.own.lt k (by rw [own_rowOf]; exact hk)).2), fun x hx => ⟨(hb.block _ (blkX (h.ks x hx).1)).trans (h.ks x hx).1, (h.ks x hx).2⟩⟩
theorem RM.lt (h : RM w0 g s gm m A c ks W) : g < gm ∧ gm < W.heap.size := ⟨h.ggm, blkX h.ms⟩
theorem RM.new (h : RM w0 g s gm m A c ks W) (cs : Array Value) (t : TypeId) : RM w0 g s gm m A c ((W.heap.size, cs, t) :: ks) (W.alloc (.cells cs t)) := by
  have h2 := h.keep ((Below.refl _ W).alloc (Nat.le_refl _) (.cells cs t))
  have := h.lt
  refine ⟨h2.bg, h2.ggm, h2.bel, h2.rd, h2.ms, h2.own, fun x hx => ?_⟩
  rcases List.mem_cons.1 hx with rfl | hx
  · exact ⟨hpNew W _, by simp only; omega, by simp only; omega, fun k hk => by have := (h.own.lt k (by rw [own_rowOf]; exact hk)).2; simp only; omega⟩
  · exact h2.ks x hx
theorem RM.drop {x : Kp} (h : RM w0 g s gm m A c (x :: ks) W) : RM w0 g s gm m A c ks W := ⟨h.bg, h.ggm, h.bel, h.rd, h.ms, h.own, fun y hy => h.ks y (List.mem_cons_of_mem _ hy)⟩
/-- Stores into the message's block, but for its list. -/
theorem RM.set (h : RM w0 g s gm m A c ks W) (hc : Chg (fun k => k = gm) W W') (hm : W'.heap[gm]? = some (.cells (mCells m' A c) 28 (0, 0))) (hl : m'.l = m.l) : RM w0 g s gm m' A c ks W' := by
  obtain ⟨A0, c0, hi⟩ := h.rd
  have hne := own_ty h.own h.ms (show 28 ≠ 45 from by decide)
  refine ⟨h.bg, h.ggm, hc.belowAfter h.bel h.bel.size (fun k hk e => by have := h.bg; have := h.ggm; omega), ⟨A0, c0, hi.keep hc (by have := h.ggm; omega) (fun k hk => by have := hi.old k hk; have := h.ggm; omega)⟩, hm, ?_, fun x hx => ?_⟩
  · rw [hl]
    exact own_stay h.own fun k hk => hc.block k ((h.own.lt k (by rw [own_rowOf]; exact hk)).2) (hne k hk)
  · obtain ⟨h1, h2, h3, h4⟩ := h.ks x hx
    exact ⟨(hc.block _ (blkX h1) h3).trans h1, h2, h3, h4⟩
/-- One entry more. -/
theorem RM.app {e : Ent} {A' : Option Addr} {c' : Nat} (h : RM w0 g s gm m A c ks W) (ho : W'.ownsRow w0.heap.size 45 4 (.slice A' (m.l.length + 1) c') (m.l.length + 1) (flat encEnt (m.l ++ [e]))) (hg : W.grownBy W' (rowOf A)) (hat : rowOf A' = rowOf A ∨ rowOf A' = some W.heap.size) :
    W'.heap[gm]? = some (.cells (mCells m A c) 28 (0, 0)) ∧ RM w0 g s gm { m with l := m.l ++ [e] } A' c' ks (W'.setCell ⟨gm, 8, none⟩ (.slice A' (m.l.length + 1) c')) := by
  obtain ⟨A0, c0, hi⟩ := h.rd
  have hlt := h.lt
  have hne := own_ty h.own h.ms (show 28 ≠ 45 from by decide)
  have hng := own_ty h.own hi.blk (show 91 ≠ 45 from by decide)
  have hS : Chg (fun k => rowOf A = some k) W W' := Chg.of_grown hg fun k e => e
  have hm : W'.heap[gm]? = some (.cells (mCells m A c) 28 (0, 0)) := (hg.block _ (blkX h.ms) fun e => hne gm e.symm rfl).trans h.ms
  have hbel : Below w0.heap.size w0 W' := h.bel.grown hg h.bel.size fun k e => (own_row h.own k e).1
  refine ⟨hm, h.bg, h.ggm, hbel.setCell (p := ⟨gm, 8, none⟩) (by have := h.bg; simp only; omega) _, ?_, ?_, ?_, fun x hx => ?_⟩
  · refine ⟨A0, c0, ?_⟩
    have h1 : IsRd W' g A0 c0 s := by
      by_cases h0 : (left s).length = 0
      · refine ⟨(hg.block g hi.lt fun e => hng g e.symm rfl).trans hi.blk, ⟨hi.rb.1, fun q => by omega⟩, hi.cap, hi.len, fun q => by omega, hi.old⟩
      · obtain ⟨ad, cs, fr, e1, e2⟩ := hi.typ (by omega)
        refine hi.keep hS (fun e => hng g e rfl) fun k hk hk2 => ?_
        have e3 : ad.block = k := by rw [e1] at hk; exact Option.some.inj hk
        rw [e3] at e2
        rcases h.own.2 with ⟨e4, _⟩ | ⟨k2, cp, cur, e4, _, hh, _⟩
        · injection e4 with e4; subst e4; cases hk2
        · injection e4 with e4
          subst e4
          have e5 : k2 = k := Option.some.inj hk2
          subst e5
          rw [e2] at hh
          injection hh with hh
          injection hh with _ ht2
          exact absurd ht2 (by decide)
    exact h1.keep (setG W' gm 8 _) (by omega) fun k hk => by have := hi.old k hk; omega
  · have := hpSet (i := 8) (v := .slice A' (m.l.length + 1) c') hm
    rw [this]
    simp [mCells]
  · have e1 : ({ m with l := m.l ++ [e] } : Mg).l.length = m.l.length + 1 := by simp
    rw [e1]
    have hne2 := own_ty ho hm (show 28 ≠ 45 from by decide)
    exact own_stay ho fun k hk => hpFar (hne2 k hk)
  · obtain ⟨h1, h2, h3, h4⟩ := h.ks x hx
    refine ⟨(hpFar h3).trans ((hg.block _ (blkX h1) fun e => h4 _ e.symm rfl).trans h1), h2, h3, fun k hk => ?_⟩
    rcases hat with e | e
    · exact h4 k (by rw [← e]; exact hk)
    · rw [e] at hk
      have : W.heap.size = k := Option.some.inj hk
      have := blkX h1
      omega
/-- A store into the newest block beside. -/
theorem RM.setHead {b i : Nat} {cs : Array Value} {t : TypeId} {v : Value} (h : RM w0 g s gm m A c ((b, cs, t) :: ks) W) (hk : ∀ y ∈ ks, y.1 < b) : RM w0 g s gm m A c ((b, cs.setIfInBounds i v, t) :: ks) (W.setCell ⟨b, i, none⟩ v) := by
  obtain ⟨h1, h2, h3, h4⟩ := h.ks _ (List.mem_cons_self ..)
  dsimp only at h1 h2 h3 h4
  obtain ⟨A0, c0, hi⟩ := h.rd
  have hc := setG W b i v
  refine ⟨h.bg, h.ggm, hc.belowAfter h.bel h.bel.size (fun k hk e => by have := h.bg; omega), ⟨A0, c0, hi.keep hc (by omega) (fun k hk => by have := hi.old k hk; omega)⟩, (hc.block _ (blkX h.ms) (by omega)).trans h.ms, own_stay h.own fun k hk => hc.block k ((h.own.lt k (by rw [own_rowOf]; exact hk)).2) (fun e => h4 k hk e), fun x hx => ?_⟩
  rcases List.mem_cons.1 hx with rfl | hx
  · exact ⟨hpSet h1, h2, h3, h4⟩
  · obtain ⟨g1, g2, g3, g4⟩ := h.ks x (List.mem_cons_of_mem _ hx)
    have := hk x hx
    exact ⟨(hc.block _ (blkX g1) (by omega)).trans g1, g2, g3, g4⟩
theorem RM.ksLt (h : RM w0 g s gm m A c ks W) : ∀ y ∈ ks, y.1 < W.heap.size := fun y hy => blkX (h.ks y hy).1
theorem RM.cast (h : RM w0 g s gm m A c ks W) (e1 : s = s') (e2 : m = m') : RM w0 g s' gm m' A c ks W := e1 ▸ e2 ▸ h
end
end Go.Proofs.YtlinjanflenljaaGreatDoor

namespace Go.Proofs.YtlinjanflenljaaGreatDoor
open Go.RowKit
set_option linter.unusedSimpArgs false
set_option linter.unusedVariables false
set_option linter.unusedSectionVars false
set_option maxRecDepth 10000
section
variable {w0 W : World} {g gm c : Nat} {s : RS} {m : Mg} {A : Option Addr} {ks : List Kp}
set_option maxHeartbeats 4000000 in
theorem rd0_any (h : RM w0 g s gm m A c ks W) : Calls Tryz.prog 63 #[.pointer (some ⟨g, 0, none⟩), .pointer (some ⟨gm, 0, none⟩)] W fun e w' => e = .returned (.tuple #[]) ∧ RM w0 g (pSm (pSm s).2).2 gm { m with ro := (pSm s).1, no := (pSm (pSm s).2).1 } A c ks w' := by
  have hc := RM.step h (fun A c hi => readBallot_any hi)
  go_enter Tryz.func63, Tryz.ntmps63
  go_wp2_with (fail)
  refine hc.mono ?_
  rintro e w1 ⟨rfl, h1⟩
  have f1 := blkF h1.ms
  have q3 : w1.cell? ⟨gm, 3, none⟩ = (mCells m A c)[3]? := blkC h1.ms 3
  simp only [mCells, List.getElem?_toArray, List.getElem?_cons_zero, List.getElem?_cons_succ] at q3
  have q4 : w1.cell? ⟨gm, 4, none⟩ = (mCells m A c)[4]? := blkC h1.ms 4
  simp only [mCells, List.getElem?_toArray, List.getElem?_cons_zero, List.getElem?_cons_succ] at q4
  have h2 : RM w0 g (pSm (pSm s).2).2 gm { m with ro := (pSm s).1, no := (pSm (pSm s).2).1 } A c ks ((w1.setCell ⟨gm, 3, none⟩ (.int .i64 (pSm s).1)).setCell ⟨gm, 4, none⟩ (.int .i64 (pSm (pSm s).2).1)) := h1.set ((setG w1 gm 3 _).trans (setG _ gm 4 _) fun _ _ e => e) (by
    have hq := hpSet (i := 4) (v := .int .i64 (pSm (pSm s).2).1) (hpSet (i := 3) (v := .int .i64 (pSm s).1) (h1.ms))
    rw [hq]; simp [mCells]) rfl
  replace h2 := Lib.hid h2; replace h1 := Lib.hid h1
  go_wp2_with (fail)
  go_end0
  exact ⟨rfl, h2.out⟩
set_option maxHeartbeats 4000000 in
theorem rd1_any (h : RM w0 g s gm m A c ks W) : Calls Tryz.prog 70 #[.pointer (some ⟨g, 0, none⟩), .pointer (some ⟨gm, 0, none⟩)] W fun e w' => e = .returned (.tuple #[]) ∧ RM w0 g (pSm s).2 gm { m with sl := (pSm s).1 } A c ks w' := by
  have hc := RM.step h (fun A c hi => small_any hi)
  go_enter Tryz.func70, Tryz.ntmps70
  go_wp2_with (fail)
  refine hc.mono ?_
  rintro e w1 ⟨rfl, h1⟩
  have f1 := blkF h1.ms
  have q5 : w1.cell? ⟨gm, 5, none⟩ = (mCells m A c)[5]? := blkC h1.ms 5
  simp only [mCells, List.getElem?_toArray, List.getElem?_cons_zero, List.getElem?_cons_succ] at q5
  have h2 : RM w0 g (pSm s).2 gm { m with sl := (pSm s).1 } A c ks (w1.setCell ⟨gm, 5, none⟩ (.int .i64 (pSm s).1)) := h1.set (setG w1 gm 5 _) (by
    have hq := hpSet (i := 5) (v := .int .i64 (pSm s).1) (h1.ms)
    rw [hq]; simp [mCells]) rfl
  replace h2 := Lib.hid h2; replace h1 := Lib.hid h1
  go_wp2_with (fail)
  go_end0
  exact ⟨rfl, h2.out⟩
set_option maxHeartbeats 4000000 in
theorem rd2_any (h : RM w0 g s gm m A c ks W) : Calls Tryz.prog 75 #[.pointer (some ⟨g, 0, none⟩), .pointer (some ⟨gm, 0, none⟩)] W fun e w' => e = .returned (.tuple #[]) ∧ RM w0 g (pSm s).2 gm { m with nu := (pSm s).1 } A c ks w' := by
  have hc := RM.step h (fun A c hi => small_any hi)
  go_enter Tryz.func75, Tryz.ntmps75
  go_wp2_with (fail)
  refine hc.mono ?_
  rintro e w1 ⟨rfl, h1⟩
  have f1 := blkF h1.ms
  have q6 : w1.cell? ⟨gm, 6, none⟩ = (mCells m A c)[6]? := blkC h1.ms 6
  simp only [mCells, List.getElem?_toArray, List.getElem?_cons_zero, List.getElem?_cons_succ] at q6
  have h2 : RM w0 g (pSm s).2 gm { m with nu := (pSm s).1 } A c ks (w1.setCell ⟨gm, 6, none⟩ (.int .i64 (pSm s).1)) := h1.set (setG w1 gm 6 _) (by
    have hq := hpSet (i := 6) (v := .int .i64 (pSm s).1) (h1.ms)
    rw [hq]; simp [mCells]) rfl
  replace h2 := Lib.hid h2; replace h1 := Lib.hid h1
  go_wp2_with (fail)
  go_end0
  exact ⟨rfl, h2.out⟩
set_option maxHeartbeats 4000000 in
theorem rd3_any (h : RM w0 g s gm m A c ks W) : Calls Tryz.prog 82 #[.pointer (some ⟨g, 0, none⟩), .pointer (some ⟨gm, 0, none⟩)] W fun e w' => e = .returned (.tuple #[]) ∧ RM w0 g (rdT s).2 gm { m with v := (rdT s).1 } A c ks w' := by
  have hc := RM.step h (fun A c hi => rdText_any s hi)
  rw [show strOf (rdT s).1 = sOf (rdT s).1 from rfl] at hc
  go_enter Tryz.func82, Tryz.ntmps82
  go_wp2_with (fail)
  refine hc.mono ?_
  rintro e w1 ⟨rfl, h1⟩
  have f1 := blkF h1.ms
  have q7 : w1.cell? ⟨gm, 7, none⟩ = (mCells m A c)[7]? := blkC h1.ms 7
  simp only [mCells, List.getElem?_toArray, List.getElem?_cons_zero, List.getElem?_cons_succ] at q7
  have h2 : RM w0 g (rdT s).2 gm { m with v := (rdT s).1 } A c ks (w1.setCell ⟨gm, 7, none⟩ (.string (sOf (rdT s).1))) := h1.set (setG w1 gm 7 _) (by
    have hq := hpSet (i := 7) (v := .string (sOf (rdT s).1)) (h1.ms)
    rw [hq]; simp [mCells]) rfl
  replace h2 := Lib.hid h2; replace h1 := Lib.hid h1
  go_wp2_with (fail)
  go_end0
  exact ⟨rfl, h2.out⟩
end
end Go.Proofs.YtlinjanflenljaaGreatDoor

namespace Go.Proofs.YtlinjanflenljaaGreatDoor
open Go.RowKit
set_option linter.unusedSimpArgs false
set_option linter.unusedVariables false
set_option linter.unusedSectionVars false
set_option maxRecDepth 10000
theorem ent_one (W : World) (a b c : Int) (v : List UInt8) : SL encEnt 4 (W.alloc (.cells #[.int .i64 a, .int .i64 b, .int .i64 c, .string (sOf v)] 45)) (some ⟨W.heap.size, 0, none⟩) 1 [⟨a, b, c, v⟩] := by
  refine ⟨rfl, fun _ => ⟨W.heap.size, 0, rfl, by simp, fun i x hx j u hu => ?_⟩⟩
  have hi : i = 0 := by have := (List.getElem?_eq_some_iff.1 hx).1; simp at this; omega
  subst hi
  simp only [List.getElem?_cons_zero, Option.some.injEq] at hx
  subst hx
  have hb := hpNew W (.cells #[.int .i64 a, .int .i64 b, .int .i64 c, .string (sOf v)] 45)
  have hj : j = 0 ∨ j = 1 ∨ j = 2 ∨ j = 3 := by have := (List.getElem?_eq_some_iff.1 hu).1; simp [encEnt] at this; omega
  rcases hj with rfl | rfl | rfl | rfl <;> (simp [encEnt] at hu; subst hu)
  · exact blkC hb 0
  · exact blkC hb 1
  · exact blkC hb 2
  · exact blkC hb 3
theorem gEnts_stop (n : Nat) (s : RS) (h : left s = []) : gEnts pSm n s = ([], s) := by
  cases n with
  | zero => rfl
  | succ n => unfold gEnts; rw [if_pos h]
theorem gEnts_go (n : Nat) (s : RS) (h : ¬ left s = []) : gEnts pSm (n + 1) s = ((gEnt pSm s).1 :: (gEnts pSm n (gEnt pSm s).2).1, (gEnts pSm n (gEnt pSm s).2).2) := by
  conv => lhs; unfold gEnts
  rw [if_neg h]
attribute [local go_sem ↓] hideAppend
set_option maxHeartbeats 16000000 in
theorem rd4_any {w0 W : World} {g gm c : Nat} {s : RS} {m : Mg} {A : Option Addr} {ks : List Kp} (h : RM w0 g s gm m A c ks W) (hl : m.l = []) : Calls Tryz.prog 88 #[.pointer (some ⟨g, 0, none⟩), .pointer (some ⟨gm, 0, none⟩)] W fun e w' => e = .returned (.tuple #[]) ∧ ∃ s' A' c', RM w0 g s' gm { m with l := (gEnts pSm (pSm s).1.toNat (pSm s).2).1 } A' c' ks w' ∧ ((gEnts pSm (pSm s).1.toNat (pSm s).2).1.length = (pSm s).1.toNat → s' = (gEnts pSm (pSm s).1.toNat (pSm s).2).2) ∧ ((gEnts pSm (pSm s).1.toNat (pSm s).2).1.length ≠ (pSm s).1.toNat → s' = none) := by
  have hc := RM.step h (fun A c hi => small_any hi)
  obtain ⟨n0, n1⟩ := pSm_le s
  obtain ⟨n, hn⟩ : ∃ n : Nat, n = (pSm s).1.toNat := ⟨_, rfl⟩
  have hni : (pSm s).1 = (n : Int) := by omega
  rw [hni] at hc
  generalize hs0 : (pSm s).2 = t0 at *
  have hn31 : n ≤ 2147483647 := by omega
  have hml : m = { m with l := [] } := by rw [← hl]
  replace hs0 := Lib.hid hs0; replace hni := Lib.hid hni; replace hn := Lib.hid hn
  clear n0 n1
  go_enter Tryz.func88, Tryz.ntmps88
  go_wp2_with (fail)
  refine hc.mono ?_
  rintro e w1 ⟨rfl, h1⟩
  rw [hml] at h1
  replace h1 := Lib.hid h1; replace hml := Lib.hid hml
  go_wp2_with (fail)
  go_loopw [5] (fun i wr => ∃ (k : Nat) (l1 : List Ent) (s1 : RS) (A1 : Option Addr) (cq : Nat), k ≤ n ∧ i = .int .i64 k ∧ RM w0 g s1 gm { m with l := l1 } A1 cq ks wr ∧ l1.length = k ∧ gEnts pSm n t0 = (l1 ++ (gEnts pSm (n - k) s1).1, (gEnts pSm (n - k) s1).2)) (fun i _ => n - (intOf i).toNat)
  case atStart => exact ⟨0, [], t0, A, c, by omega, rfl, h1.out, rfl, by simp⟩
  case round =>
    clear h1
    revert wr
    intro W1 hrel
    obtain ⟨k, l1, s1, A1, cq, hk, rfl, hM, hlk, hg⟩ := hrel
    by_cases hlt : k < n
    · obtain ⟨q, hq⟩ : ∃ q, n - k = q + 1 := ⟨n - k - 1, by omega⟩
      rw [hq] at hg
      have hk1 : (k : Int) < (n : Int) := by omega
      have hlf : ∃ A c, IsRd W1 g A c s1 := hM.rd
      obtain ⟨Ar, cr, hi⟩ := hlf
      have hle := left_p hi
      by_cases h0 : left s1 = []
      · rw [gEnts_stop _ _ h0, List.append_nil] at hg
        have hz : (((left s1).length : Nat) : Int) = 0 := by rw [h0]; rfl
        rw [hz] at hle
        have hfl := RM.step hM (fun A c hi => fail_p hi)
        have hlen : l1.length ≠ n := by omega
        replace hg := Lib.hid hg; replace hlen := Lib.hid hlen; replace hi := Lib.hid hi; replace hz := Lib.hid hz; replace hlk := Lib.hid hlk
        clear h0
        go_wp2_with (fail)
        refine hle.mono ?_
        rintro e w2 ⟨rfl, rfl⟩
        go_wp2_with (fail)
        refine hfl.mono ?_
        rintro e w2 ⟨rfl, h2⟩
        replace h2 := Lib.hid h2
        go_wp2_with (fail)
        refine bodyPost_ret (by simp [results, Tryz.results88, go_sem, *]; try with_reducible rfl) rfl ?_
        refine ⟨rfl, none, A1, cq, ?_, fun q => ?_, fun _ => rfl⟩
        · rw [← hn.out, hg.out]; exact h2.out
        · rw [← hn.out, hg.out] at q; exact absurd q hlen.out
      · rw [gEnts_go _ _ h0] at hg
        have hne : ¬ ((left s1).length : Int) = 0 := fun e => h0 (List.length_eq_zero_iff.1 (by omega))
        have hne2 : (((left s1).length : Int) == 0) = false := by simp [h0]
        have hz1 := RM.step hM (fun A c hi => small_any hi)
        obtain ⟨x1, hx1⟩ : ∃ x, x = (pSm s1).1 := ⟨_, rfl⟩
        obtain ⟨x2, hx2⟩ : ∃ x, x = (pSm (pSm s1).2).1 := ⟨_, rfl⟩
        obtain ⟨x3, hx3⟩ : ∃ x, x = (pSm (pSm (pSm s1).2).2).1 := ⟨_, rfl⟩
        obtain ⟨xl, hxl⟩ : ∃ x, x = (rdT (pSm (pSm (pSm s1).2).2).2).1 := ⟨_, rfl⟩
        obtain ⟨x4, hx4⟩ : ∃ x, x = sOf xl := ⟨_, rfl⟩
        obtain ⟨s5, hs5⟩ : ∃ x, x = (rdT (pSm (pSm (pSm s1).2).2).2).2 := ⟨_, rfl⟩
        have hg2 : gEnts pSm n t0 = ((l1 ++ [⟨x1, x2, x3, xl⟩]) ++ (gEnts pSm (n - (k + 1)) s5).1, (gEnts pSm (n - (k + 1)) s5).2) := by
          rw [show n - (k + 1) = q from by omega, hg, hx1, hx2, hx3, hxl, hs5, List.append_assoc]
          rfl
        rw [← hx1] at hz1
        generalize hlL : (left s1).length = L at *
        replace hg2 := Lib.hid hg2; replace hi := Lib.hid hi; replace hlk := Lib.hid hlk; replace hx1 := Lib.hid hx1; replace hx2 := Lib.hid hx2; replace hx3 := Lib.hid hx3; replace hxl := Lib.hid hxl; replace hx4 := Lib.hid hx4; replace hs5 := Lib.hid hs5; replace hM := Lib.hid hM; replace hlL := Lib.hid hlL
        clear h0 hg
        go_wp2_with (fail)
        refine hle.mono ?_
        rintro e w2 ⟨rfl, rfl⟩
        go_wp2_with (fail)
        refine hz1.mono ?_
        rintro e w2 ⟨rfl, h2⟩
        have hz2 := RM.step h2 (fun A c hi => readBallot_any hi)
        rw [← hx2.out, ← hx3.out] at hz2
        replace h2 := Lib.hid h2
        clear hM hz1 hle
        go_wp2_with (fail)
        refine hz2.mono ?_
        rintro e w3 ⟨rfl, h3⟩
        have h4 := h3.new #[.int .i64 x1, .int .i64 x2, .int .i64 x3, .string ⟨#[]⟩] 45
        have hz4 := RM.step h4 (fun A c hi => rdText_any _ hi)
        rw [← hxl.out, ← hs5.out, show strOf xl = x4 from hx4.out.symm] at hz4
        have hkl := h3.ksLt
        replace h4 := Lib.hid h4; replace h3 := Lib.hid h3; replace hkl := Lib.hid hkl
        clear h2 hz2
        go_wp2_with (fail)
        refine hz4.mono ?_
        rintro e w4 ⟨rfl, h5⟩
        have fE := blkF (h5.ks _ (List.mem_cons_self ..)).1
        have e3 : w4.cell? ⟨w3.heap.size, 3, none⟩ = some (.string ⟨#[]⟩) := blkC (h5.ks _ (List.mem_cons_self ..)).1 3
        have h6 := (h5.setHead (i := 3) (v := .string x4) hkl.out).keep (Below.refl _ _).drew
        obtain ⟨W0, hW0⟩ : ∃ W0, W0 = w4.setCell ⟨w3.heap.size, 3, none⟩ (.string x4) := ⟨_, rfl⟩
        rw [← hW0] at h6
        have hM : RM w0 g s5 gm { m with l := l1 } A1 cq ((w3.heap.size, #[.int .i64 x1, .int .i64 x2, .int .i64 x3, .string x4], 45) :: ks) W0.drew := h6
        have hS2 : ∀ W' : World, W'.heap[w3.heap.size]? = some (.cells #[.int .i64 x1, .int .i64 x2, .int .i64 x3, .string x4] 45 (0, 0)) → (W'.cell? ⟨w3.heap.size, 0, none⟩ = some (.int .i64 x1) ∧ W'.cell? ⟨w3.heap.size, 1, none⟩ = some (.int .i64 x2) ∧ W'.cell? ⟨w3.heap.size, 2, none⟩ = some (.int .i64 x3) ∧ W'.cell? ⟨w3.heap.size, 3, none⟩ = some (.string x4)) := fun W' h => ⟨blkC h 0, blkC h 1, blkC h 2, blkC h 3⟩
        have hS : ∀ (A2 : Option Addr) (c2 : Nat) (m2 : Mg) (W' : World), RM w0 g s5 gm m2 A2 c2 ((w3.heap.size, #[.int .i64 x1, .int .i64 x2, .int .i64 x3, .string x4], 45) :: ks) W' → (W'.cell? ⟨w3.heap.size, 0, none⟩ = some (.int .i64 x1) ∧ W'.cell? ⟨w3.heap.size, 1, none⟩ = some (.int .i64 x2) ∧ W'.cell? ⟨w3.heap.size, 2, none⟩ = some (.int .i64 x3) ∧ W'.cell? ⟨w3.heap.size, 3, none⟩ = some (.string x4)) := fun _ _ _ W' h => hS2 W' (h.ks _ (List.mem_cons_self ..)).1
        replace hS := Lib.hid hS; replace hS2 := Lib.hid hS2
        replace hM := Lib.hid hM; replace h5 := Lib.hid h5
        clear h4 h3 hz4 h6
        go_wp2_with (fail)
        rw [← hW0]
        clear hW0 fE e3
        refine wp_region_held_drew (S := (fun W' => W'.cell? ⟨w3.heap.size, 0, none⟩ = some (.int .i64 x1) ∧ W'.cell? ⟨w3.heap.size, 1, none⟩ = some (.int .i64 x2) ∧ W'.cell? ⟨w3.heap.size, 2, none⟩ = some (.int .i64 x3) ∧ W'.cell? ⟨w3.heap.size, 3, none⟩ = some (.string x4))) (by kernel_rfl) ?_ (fun hH => ?_)
        · exact hS.out _ _ _ _ hM.out
        generalize W0.drew = V0 at *
        refine wpAnyH_take (i := 0) (v := ?_) rfl (by kernel_rfl) (by kernel_rfl) (by kernel_rfl) (fun _ _ _ h => h) (Or.inl ⟨by rfl, by intro w hSw; go_simp; first | done | with_reducible rfl⟩) hH ?_
        simp only [List.getElem_toArray, List.getElem_cons_succ, List.getElem_cons_zero, Act.put, List.setIfInBounds_toArray, List.set_cons_zero, List.set_cons_succ]
        refine wpAnyH_take (i := 1) (v := ?_) rfl (by kernel_rfl) (by kernel_rfl) (by kernel_rfl) (fun _ _ _ h => h) (Or.inl ⟨by rfl, by intro w hSw; go_simp; first | done | with_reducible rfl⟩) hH ?_
        simp only [List.getElem_toArray, List.getElem_cons_succ, List.getElem_cons_zero, Act.put, List.setIfInBounds_toArray, List.set_cons_zero, List.set_cons_succ]
        refine wpAnyH_take (i := 2) (v := ?_) rfl (by kernel_rfl) (by kernel_rfl) (by kernel_rfl) (fun _ _ _ h => h) (Or.inl ⟨by rfl, by intro w hSw; go_simp; first | done | with_reducible rfl⟩) hH ?_
        simp only [List.getElem_toArray, List.getElem_cons_succ, List.getElem_cons_zero, Act.put, List.setIfInBounds_toArray, List.set_cons_zero, List.set_cons_succ]
        refine wpAnyH_take (i := 3) (v := ?_) rfl (by kernel_rfl) (by kernel_rfl) (by kernel_rfl) (fun _ _ _ h => h) (Or.inl ⟨by rfl, by intro w hSw; go_simp; first | done | with_reducible rfl⟩) hH ?_
        simp only [List.getElem_toArray, List.getElem_cons_succ, List.getElem_cons_zero, Act.put, List.setIfInBounds_toArray, List.set_cons_zero, List.set_cons_succ]
        refine wpAnyH_take (i := 5) (v := ?_) rfl (by kernel_rfl) (by kernel_rfl) (by kernel_rfl) (fun _ _ _ h => h) (Or.inl ⟨by rfl, by intro w hSw; obtain ⟨s0, s1, s2, s3⟩ := hSw; go_simp; first | done | with_reducible rfl⟩) hH ?_
        simp only [List.getElem_toArray, List.getElem_cons_succ, List.getElem_cons_zero, Act.put, List.setIfInBounds_toArray, List.set_cons_zero, List.set_cons_succ]
        refine wpAnyH_ready (rs := [4, 6]) (by kernel_rfl) (by simp) ?_
        refine AllReadyH.cons rfl (fun K hK => ?_) ?_
        · clear hH
          have hc8 : V0.cell? ⟨gm, 8, none⟩ = some (.slice A1 k cq) := (blkC hM.out.ms 8).trans (by simp [mCells, hlk.out])
          go_simp
          clear hc8
          refine hK.out _ _ (hS.out _ _ _ _ hM.out) (fun hH => ?_)
          clear hK K
          refine wpAnyH_ready (rs := [6]) (by kernel_rfl) (by simp) ?_
          refine AllReadyH.cons rfl (fun K hK => ?_) ?_
          · clear hH
            have bb := (Below.refl _ V0).alloc (Nat.le_refl _) (.cells #[.int .i64 x1, .int .i64 x2, .int .i64 x3, .string x4] 45)
            have hN := ent_one V0 x1 x2 x3 xl
            rw [← hx4.out] at hN
            go_simp
            have hM1 := Lib.hid (hM.out.keep bb)
            clear hM bb; have hM := hM1; clear hM1
            generalize hVV : V0.alloc (.cells #[.int .i64 x1, .int .i64 x2, .int .i64 x3, .string x4] 45) = V1 at *
            replace hN := Lib.hid hN; replace hVV := Lib.hid hVV
            refine hK.out _ _ (hS.out _ _ _ _ hM.out) (fun hH => ?_)
            clear hK K
            refine wpAnyH_ready (rs := [7]) (by kernel_rfl) (by simp) ?_
            refine AllReadyH.cons rfl (fun K hK => ?_) ?_
            · clear hH
              obtain ⟨A', c', V2, hrun, hcap, hown, hgr, hat⟩ := append_sl elemEnt encEnt_len encEnt_one (ty := 26) (d := 1) (n := k) (c := cq) (A := A1) (xs := l1) (by have := hM.out.own; rw [hlk.out] at this; exact this) hM.out.bel.size hN.out (by omega) (by omega)
              have hap := hM.out.app (e := ⟨x1, x2, x3, xl⟩) (c' := c') (by rw [show ({ m with l := l1 } : Mg).l.length = k from hlk.out]; exact hown) hgr hat
              rw [show ({ m with l := l1 } : Mg).l.length + 1 = k + 1 from by rw [hlk.out]] at hap
              have hE2 : V2.heap[w3.heap.size]? = some (.cells #[.int .i64 x1, .int .i64 x2, .int .i64 x3, .string x4] 45 (0, 0)) := by
                obtain ⟨e1, e2, e3, e4⟩ := hM.out.ks _ (List.mem_cons_self ..)
                exact (hgr.block _ (blkX e1) fun e => e4 _ e.symm rfl).trans e1
              replace hap := Lib.hid hap; replace hE2 := Lib.hid hE2
              clear hown hgr hat hcap hM
              go_simp
              refine hK.out _ _ (hS2.out _ hE2.out) (fun hH => ?_)
              clear hK K
              refine wpAnyH_take (i := 8) (v := ?_) rfl (by kernel_rfl) (by kernel_rfl) (by kernel_rfl) (fun _ _ _ h => h) (Or.inl ⟨by rfl, by intro w hSw; go_simp; first | done | with_reducible rfl⟩) hH ?_
              simp only [List.getElem_toArray, List.getElem_cons_succ, List.getElem_cons_zero, Act.put, List.setIfInBounds_toArray, List.set_cons_zero, List.set_cons_succ]
              refine wpAnyH_take (i := 9) (v := ?_) rfl (by kernel_rfl) (by kernel_rfl) (by kernel_rfl) (fun _ _ _ h => h) (Or.inl ⟨by rfl, by intro w hSw; go_simp; first | done | with_reducible rfl⟩) hH ?_
              simp only [List.getElem_toArray, List.getElem_cons_succ, List.getElem_cons_zero, Act.put, List.setIfInBounds_toArray, List.set_cons_zero, List.set_cons_succ]
              refine wpAnyH_ready (rs := [10]) (by kernel_rfl) (by simp) ?_
              refine AllReadyH.cons rfl (fun K hK => ?_) ?_
              · clear hH
                have hfz := blkF hap.out.1
                have hc8 := blkC hap.out.1 8
                simp only [mCells, List.getElem?_toArray, List.getElem?_cons_zero, List.getElem?_cons_succ] at hc8
                have hM := Lib.hid hap.out.2
                go_simp
                clear hfz hc8 hap hE2
                refine hK.out _ _ (hS.out _ _ _ _ hM.out) (fun hH => ?_)
                clear hK K
                refine wpAnyH_done (by kernel_rfl) ?_ _
                clear hH hS hS2
                go_wp2_with (fail)
                refine ⟨⟨k + 1, l1 ++ [⟨x1, x2, x3, xl⟩], s5, A', c', by omega, by go_num, hM.out.drop, by simp [hlk.out], hg2.out⟩, by simp [intOf]; omega⟩
              exact AllReadyH.nil
            exact AllReadyH.nil
          exact AllReadyH.nil
        refine AllReadyH.cons rfl (fun K hK => ?_) ?_
        · clear hH
          have bb := (Below.refl _ V0).alloc (Nat.le_refl _) (.cells #[.int .i64 x1, .int .i64 x2, .int .i64 x3, .string x4] 45)
          have hN := ent_one V0 x1 x2 x3 xl
          rw [← hx4.out] at hN
          go_simp
          have hM1 := Lib.hid (hM.out.keep bb)
          clear hM bb; have hM := hM1; clear hM1
          generalize hVV : V0.alloc (.cells #[.int .i64 x1, .int .i64 x2, .int .i64 x3, .string x4] 45) = V1 at *
          replace hN := Lib.hid hN; replace hVV := Lib.hid hVV
          refine hK.out _ _ (hS.out _ _ _ _ hM.out) (fun hH => ?_)
          clear hK K
          refine wpAnyH_ready (rs := [4]) (by kernel_rfl) (by simp) ?_
          refine AllReadyH.cons rfl (fun K hK => ?_) ?_
          · clear hH
            have hc8 : V1.cell? ⟨gm, 8, none⟩ = some (.slice A1 k cq) := (blkC hM.out.ms 8).trans (by simp [mCells, hlk.out])
            go_simp
            clear hc8
            refine hK.out _ _ (hS.out _ _ _ _ hM.out) (fun hH => ?_)
            clear hK K
            refine wpAnyH_ready (rs := [7]) (by kernel_rfl) (by simp) ?_
            refine AllReadyH.cons rfl (fun K hK => ?_) ?_
            · clear hH
              obtain ⟨A', c', V2, hrun, hcap, hown, hgr, hat⟩ := append_sl elemEnt encEnt_len encEnt_one (ty := 26) (d := 1) (n := k) (c := cq) (A := A1) (xs := l1) (by have := hM.out.own; rw [hlk.out] at this; exact this) hM.out.bel.size hN.out (by omega) (by omega)
              have hap := hM.out.app (e := ⟨x1, x2, x3, xl⟩) (c' := c') (by rw [show ({ m with l := l1 } : Mg).l.length = k from hlk.out]; exact hown) hgr hat
              rw [show ({ m with l := l1 } : Mg).l.length + 1 = k + 1 from by rw [hlk.out]] at hap
              have hE2 : V2.heap[w3.heap.size]? = some (.cells #[.int .i64 x1, .int .i64 x2, .int .i64 x3, .string x4] 45 (0, 0)) := by
                obtain ⟨e1, e2, e3, e4⟩ := hM.out.ks _ (List.mem_cons_self ..)
                exact (hgr.block _ (blkX e1) fun e => e4 _ e.symm rfl).trans e1
              replace hap := Lib.hid hap; replace hE2 := Lib.hid hE2
              clear hown hgr hat hcap hM
              go_simp
              refine hK.out _ _ (hS2.out _ hE2.out) (fun hH => ?_)
              clear hK K
              refine wpAnyH_take (i := 8) (v := ?_) rfl (by kernel_rfl) (by kernel_rfl) (by kernel_rfl) (fun _ _ _ h => h) (Or.inl ⟨by rfl, by intro w hSw; go_simp; first | done | with_reducible rfl⟩) hH ?_
              simp only [List.getElem_toArray, List.getElem_cons_succ, List.getElem_cons_zero, Act.put, List.setIfInBounds_toArray, List.set_cons_zero, List.set_cons_succ]
              refine wpAnyH_take (i := 9) (v := ?_) rfl (by kernel_rfl) (by kernel_rfl) (by kernel_rfl) (fun _ _ _ h => h) (Or.inl ⟨by rfl, by intro w hSw; go_simp; first | done | with_reducible rfl⟩) hH ?_
              simp only [List.getElem_toArray, List.getElem_cons_succ, List.getElem_cons_zero, Act.put, List.setIfInBounds_toArray, List.set_cons_zero, List.set_cons_succ]
              refine wpAnyH_ready (rs := [10]) (by kernel_rfl) (by simp) ?_
              refine AllReadyH.cons rfl (fun K hK => ?_) ?_
              · clear hH
                have hfz := blkF hap.out.1
                have hc8 := blkC hap.out.1 8
                simp only [mCells, List.getElem?_toArray, List.getElem?_cons_zero, List.getElem?_cons_succ] at hc8
                have hM := Lib.hid hap.out.2
                go_simp
                clear hfz hc8 hap hE2
                refine hK.out _ _ (hS.out _ _ _ _ hM.out) (fun hH => ?_)
                clear hK K
                refine wpAnyH_done (by kernel_rfl) ?_ _
                clear hH hS hS2
                go_wp2_with (fail)
                refine ⟨⟨k + 1, l1 ++ [⟨x1, x2, x3, xl⟩], s5, A', c', by omega, by go_num, hM.out.drop, by simp [hlk.out], hg2.out⟩, by simp [intOf]; omega⟩
              exact AllReadyH.nil
            exact AllReadyH.nil
          exact AllReadyH.nil
        exact AllReadyH.nil
    · obtain rfl : k = n := by omega
      rw [Nat.sub_self] at hg
      have hg3 : gEnts pSm k t0 = (l1, s1) := by rw [hg]; simp [gEnts]
      replace hg3 := Lib.hid hg3; replace hM := Lib.hid hM; replace hlk := Lib.hid hlk
      clear hg
      go_wp2_with (fail)
      go_end0
      refine ⟨rfl, s1, A1, cq, ?_, fun q => ?_, fun q => ?_⟩
      · rw [← hn.out, hg3.out]; exact hM.out
      · rw [← hn.out, hg3.out]
      · rw [← hn.out, hg3.out] at q; exact absurd hlk.out q
end Go.Proofs.YtlinjanflenljaaGreatDoor
