/- The reference's reader, and the message that is read into. -/
import Derived.Test.YtlinjanflenljaaGreatDoorRM
import Derived.Test.YtlinjanflenljaaGreatDoorRefS
namespace Go.Proofs.YtlinjanflenljaaGreatDoor
open Go.RowKit
set_option linter.unusedSimpArgs false
set_option linter.unusedVariables false
set_option linter.unusedSectionVars false
set_option maxRecDepth 10000
theorem IsRr.keepT {w w' : World} {g : Nat} {A : Option Addr} {c : Nat} {s : RS} {S : Nat → Prop} (h : IsRr w g A c s) (hc : Chg S w w') (hg : ¬ S g) (hS : ∀ k, S k → ∀ cs fr, w.heap[k]? ≠ some (.cells cs 5 fr)) : IsRr w' g A c s := by
  refine ⟨(hc.block g h.lt hg).trans h.blk, h.typ.rb h.rb hc hS, h.cap, h.len, fun hn => ?_⟩
  obtain ⟨ad, cs, fr, e1, e2⟩ := h.typ hn
  exact ⟨ad, cs, fr, e1, (hc.block _ (blkX e2) fun q => hS _ q cs fr e2).trans e2⟩
/-- A reader, the message that is read into, and blocks beside them. -/
structure RN (w0 : World) (g : Nat) (s : RS) (gm : Nat) (m : Mg) (A : Option Addr) (c : Nat) (ks : List Kp) (W : World) : Prop where
  bg : w0.heap.size ≤ g
  ggm : g < gm
  bel : Below w0.heap.size w0 W
  rd : ∃ A' c', IsRr W g A' c' s
  ms : W.heap[gm]? = some (.cells (mCells m A c) 28 (0, 0))
  own : W.ownsRow w0.heap.size 45 4 (.slice A m.l.length c) m.l.length (flat encEnt m.l)
  ks : ∀ x ∈ ks, W.heap[x.1]? = some (.cells x.2.1 x.2.2 (0, 0)) ∧ g < x.1 ∧ x.1 ≠ gm ∧ ∀ k, rowOf A = some k → k ≠ x.1
section
variable {w0 W W' : World} {g gm c : Nat} {s s' : RS} {m m' : Mg} {A : Option Addr} {ks : List Kp}
theorem RN.to (h : RN w0 g s gm m A c ks W) (ht : RrTo W g s' W') : RN w0 g s' gm m A c ks W' := by
  obtain ⟨A0, c0, hi⟩ := h.rd
  have hg := hi.blk
  obtain ⟨A', c', hi', hch⟩ := ht
  have hne := own_ty h.own hg (show 99 ≠ 45 from by decide)
  refine ⟨h.bg, h.ggm, hch.belowAfter h.bel h.bel.size (fun k hk e => by have := h.bg; omega), ⟨A', c', hi'⟩, (hch.block gm (blkX h.ms) (by have := h.ggm; omega)).trans h.ms, own_stay h.own fun k hk => hch.block k ((h.own.lt k (by rw [own_rowOf]; exact hk)).2) (hne k hk), fun x hx => ?_⟩
  obtain ⟨h1, h2⟩ := h.ks x hx
  exact ⟨(hch.block _ (blkX h1) (by omega)).trans h1, h2⟩
theorem RN.step (h : RN w0 g s gm m A c ks W) {f : Nat} {args : Array Value} {R : Ending} (hc : ∀ A c, IsRr W g A c s → Calls Tryz.prog f args W fun e w' => e = R ∧ RrTo W g s' w') : Calls Tryz.prog f args W fun e w' => e = R ∧ RN w0 g s' gm m A c ks w' := by
  obtain ⟨A0, c0, hi⟩ := h.rd
  exact (hc A0 c0 hi).mono fun e w' ⟨he, ht⟩ => ⟨he, h.to ht⟩
theorem RN.keep (h : RN w0 g s gm m A c ks W) (hb : Below W.heap.size W W') : RN w0 g s gm m A c ks W' := by
  obtain ⟨A0, c0, hi⟩ := h.rd
  exact ⟨h.bg, h.ggm, h.bel.trans (hb.mono h.bel.size), ⟨A0, c0, hi.below hb⟩, (hb.block _ (blkX h.ms)).trans h.ms, own_stay h.own fun k hk => hb.block k ((h.own.lt k (by rw [own_rowOf]; exact hk)).2), fun x hx => ⟨(hb.block _ (blkX (h.ks x hx).1)).trans (h.ks x hx).1, (h.ks x hx).2⟩⟩
theorem RN.lt (h : RN w0 g s gm m A c ks W) : g < gm ∧ gm < W.heap.size := ⟨h.ggm, blkX h.ms⟩
theorem RN.new (h : RN w0 g s gm m A c ks W) (cs : Array Value) (t : TypeId) : RN w0 g s gm m A c ((W.heap.size, cs, t) :: ks) (W.alloc (.cells cs t)) := by
  have h2 := h.keep ((Below.refl _ W).alloc (Nat.le_refl _) (.cells cs t))
  have := h.lt
  refine ⟨h2.bg, h2.ggm, h2.bel, h2.rd, h2.ms, h2.own, fun x hx => ?_⟩
  rcases List.mem_cons.1 hx with rfl | hx
  · exact ⟨hpNew W _, by simp only; omega, by simp only; omega, fun k hk => by have := (h.own.lt k (by rw [own_rowOf]; exact hk)).2; simp only; omega⟩
  · exact h2.ks x hx
theorem RN.drop {x : Kp} (h : RN w0 g s gm m A c (x :: ks) W) : RN w0 g s gm m A c ks W := ⟨h.bg, h.ggm, h.bel, h.rd, h.ms, h.own, fun y hy => h.ks y (List.mem_cons_of_mem _ hy)⟩
/-- Stores into the message's block, but for its list. -/
theorem RN.set (h : RN w0 g s gm m A c ks W) (hc : Chg (fun k => k = gm) W W') (hm : W'.heap[gm]? = some (.cells (mCells m' A c) 28 (0, 0))) (hl : m'.l = m.l) : RN w0 g s gm m' A c ks W' := by
  obtain ⟨A0, c0, hi⟩ := h.rd
  have hne := own_ty h.own h.ms (show 28 ≠ 45 from by decide)
  refine ⟨h.bg, h.ggm, hc.belowAfter h.bel h.bel.size (fun k hk e => by have := h.bg; have := h.ggm; omega), ⟨A0, c0, hi.keepT hc (by have := h.ggm; omega) (fun k e cs fr q => by subst e; rw [h.ms] at q; injection q with q; injection q with _ ht; exact absurd ht (by decide))⟩, hm, ?_, fun x hx => ?_⟩
  · rw [hl]
    exact own_stay h.own fun k hk => hc.block k ((h.own.lt k (by rw [own_rowOf]; exact hk)).2) (hne k hk)
  · obtain ⟨h1, h2, h3, h4⟩ := h.ks x hx
    exact ⟨(hc.block _ (blkX h1) h3).trans h1, h2, h3, h4⟩
/-- One entry more. -/
theorem RN.app {e : Ent} {A' : Option Addr} {c' : Nat} (h : RN w0 g s gm m A c ks W) (ho : W'.ownsRow w0.heap.size 45 4 (.slice A' (m.l.length + 1) c') (m.l.length + 1) (flat encEnt (m.l ++ [e]))) (hg : W.grownBy W' (rowOf A)) (hat : rowOf A' = rowOf A ∨ rowOf A' = some W.heap.size) :
    W'.heap[gm]? = some (.cells (mCells m A c) 28 (0, 0)) ∧ RN w0 g s gm { m with l := m.l ++ [e] } A' c' ks (W'.setCell ⟨gm, 8, none⟩ (.slice A' (m.l.length + 1) c')) := by
  obtain ⟨A0, c0, hi⟩ := h.rd
  have hlt := h.lt
  have hne := own_ty h.own h.ms (show 28 ≠ 45 from by decide)
  have hng := own_ty h.own hi.blk (show 99 ≠ 45 from by decide)
  have hS : Chg (fun k => rowOf A = some k) W W' := Chg.of_grown hg fun k e => e
  have hm : W'.heap[gm]? = some (.cells (mCells m A c) 28 (0, 0)) := (hg.block _ (blkX h.ms) fun e => hne gm e.symm rfl).trans h.ms
  have hbel : Below w0.heap.size w0 W' := h.bel.grown hg h.bel.size fun k e => (own_row h.own k e).1
  refine ⟨hm, h.bg, h.ggm, hbel.setCell (p := ⟨gm, 8, none⟩) (by have := h.bg; simp only; omega) _, ?_, ?_, ?_, fun x hx => ?_⟩
  · refine ⟨A0, c0, ?_⟩
    have h1 : IsRr W' g A0 c0 s := by
      by_cases h0 : (left s).length = 0
      · refine ⟨(hg.block g hi.lt fun e => hng g e.symm rfl).trans hi.blk, ⟨hi.rb.1, fun q => by omega⟩, hi.cap, hi.len, fun q => by omega⟩
      · obtain ⟨ad, cs, fr, e1, e2⟩ := hi.typ (by omega)
        refine hi.keep hS (fun e => hng g e rfl) fun k hk hk2 => ?_
        have e3 : ad.block = k := by rw [e1] at hk; exact Option.some.inj hk
        rw [e3] at e2
        rcases h.own.2 with ⟨e4, _⟩ | ⟨k2, cp, cur, e4, _, hh, _⟩
        · injection e4 with e4; subst e4; cases hk2
        · injection e4 with e4
          subst e4
          have e5 : k2 = k := Option.some.inj hk2
          subst e5
          rw [e2] at hh
          injection hh with hh
          injection hh with _ ht2
          exact absurd ht2 (by decide)
    exact h1.keepT (setG W' gm 8 _) (by omega) (fun k e cs fr q => by subst e; rw [hm] at q; injection q with q; injection q with _ ht; exact absurd ht (by decide))
  · have := hpSet (i := 8) (v := .slice A' (m.l.length + 1) c') hm
    rw [this]
    simp [mCells]
  · have e1 : ({ m with l := m.l ++ [e] } : Mg).l.length = m.l.length + 1 := by simp
    rw [e1]
    have hne2 := own_ty ho hm (show 28 ≠ 45 from by decide)
    exact own_stay ho fun k hk => hpFar (hne2 k hk)
  · obtain ⟨h1, h2, h3, h4⟩ := h.ks x hx
    refine ⟨(hpFar h3).trans ((hg.block _ (blkX h1) fun e => h4 _ e.symm rfl).trans h1), h2, h3, fun k hk => ?_⟩
    rcases hat with e | e
    · exact h4 k (by rw [← e]; exact hk)
    · rw [e] at hk
      have : W.heap.size = k := Option.some.inj hk
      have := blkX h1
      omega
/-- A store into the newest block beside. -/
theorem RN.setHead {b i : Nat} {cs : Array Value} {t : TypeId} {v : Value} (h : RN w0 g s gm m A c ((b, cs, t) :: ks) W) (hk : ∀ y ∈ ks, y.1 < b) (hty : t ≠ 5) : RN w0 g s gm m A c ((b, cs.setIfInBounds i v, t) :: ks) (W.setCell ⟨b, i, none⟩ v) := by
  obtain ⟨h1, h2, h3, h4⟩ := h.ks _ (List.mem_cons_self ..)
  dsimp only at h1 h2 h3 h4
  obtain ⟨A0, c0, hi⟩ := h.rd
  have hc := setG W b i v
  refine ⟨h.bg, h.ggm, hc.belowAfter h.bel h.bel.size (fun k hk e => by have := h.bg; omega), ⟨A0, c0, hi.keepT hc (by omega) (fun k e cs fr q => by subst e; rw [h1] at q; injection q with q; injection q with _ ht; exact absurd ht hty)⟩, (hc.block _ (blkX h.ms) (by omega)).trans h.ms, own_stay h.own fun k hk => hc.block k ((h.own.lt k (by rw [own_rowOf]; exact hk)).2) (fun e => h4 k hk e), fun x hx => ?_⟩
  rcases List.mem_cons.1 hx with rfl | hx
  · exact ⟨hpSet h1, h2, h3, h4⟩
  · obtain ⟨g1, g2, g3, g4⟩ := h.ks x (List.mem_cons_of_mem _ hx)
    have := hk x hx
    exact ⟨(hc.block _ (blkX g1) (by omega)).trans g1, g2, g3, g4⟩
theorem RN.ksLt (h : RN w0 g s gm m A c ks W) : ∀ y ∈ ks, y.1 < W.heap.size := fun y hy => blkX (h.ks y hy).1
theorem RN.cast (h : RN w0 g s gm m A c ks W) (e1 : s = s') (e2 : m = m') : RN w0 g s' gm m' A c ks W := e1 ▸ e2 ▸ h
end
end Go.Proofs.YtlinjanflenljaaGreatDoor
