/- Writing a number: the contract of the writer's Uint. -/
import Derived.Test.YtgnjnpddehdmcaaGreatDoorWPush
import Derived.RegionIn
import Derived.Maps.AppendAt
import Derived.BigRegionIn
import Derived.Stop.RegionWithIn
namespace Go.Proofs.YtgnjnpddehdmcaaGreatDoor.Wi
open Go.RowKit Go.Shelf
set_option linter.unusedSimpArgs false
set_option linter.unusedVariables false
attribute [local go_sem] Oper.semAt_some

attribute [local go_sem ↓] hideAppend

set_option maxRecDepth 100000 in
set_option maxHeartbeats 4000000 in
theorem wUint_in (g : Nat) (A : Option Addr) (c : Nat) (xs : List UInt8) (m : Nat) (w : World) (h : IsWr 237 w g A c xs) (hm : m < 18446744073709551616) (hl : xs.length ≤ 1000000000) :
  CallsIn Fence.wide 3 Tryz.prog 99 #[.pointer (some ⟨g, 0, none⟩), .int .u64 m] w fun e w' => e = .returned (.tuple #[]) ∧ WrTo 237 w g A (xs ++ enc m) w' := by
 have hc := blkC h.blk 0
 have hc1 := blkC h.blk 1
 have hx := h.lt
 simp at hc hc1
 refine callsIn_of_wp_marks Tryz.func99 rfl trivial ?_ rfl
 simp only [Tryz.ntmps99, List.size_toArray, List.length_cons, List.length_nil, Nat.reduceAdd, Nat.reduceSub, Array.replicate_succ, Array.replicate_zero, List.push_toArray, List.append_toArray, List.nil_append, List.cons_append]
 gi_wp2_with (refine ⟨trivial, ?_⟩; gi_at_call 190; refine (digits_in Fence.wide _ trivial rfl _ _).mono ?_; rintro e w' ⟨rfl, rfl⟩)
 have hB1 : Boxed ((w.alloc (.cells #[.pointer (some ⟨g, 0, none⟩)] 167)).alloc (.cells #[.int .u64 m] 169)) w.heap.size 167 (.pointer (some ⟨g, 0, none⟩)) := (Boxed.new w _ _).alloc _
 have hB2 : Boxed ((w.alloc (.cells #[.pointer (some ⟨g, 0, none⟩)] 167)).alloc (.cells #[.int .u64 m] 169)) (w.heap.size + 1) 169 (.int .u64 m) := by
  have := Boxed.new (w.alloc (.cells #[.pointer (some ⟨g, 0, none⟩)] 167)) 169 (.int .u64 m)
  rwa [World.size_alloc] at this
 have hU0 : UInv 237 w g A xs [] ((w.alloc (.cells #[.pointer (some ⟨g, 0, none⟩)] 167)).alloc (.cells #[.int .u64 m] 169)) := by
  refine ⟨?_, hB1, _, hB2⟩
  rw [List.append_nil]
  exact ((WrTo.refl h).grown (World.grownBy_alloc _ _ none) (fun r e => by cases e)).grown (World.grownBy_alloc _ _ none) (fun r e => by cases e)
 clear hc hc1
 refine wpIn_rangeBox rfl (by omega) (gf := 257) (lb := #[.pointer (some ⟨w.heap.size + 1, 0, none⟩)]) rfl trivial (enters_of Tryz.func257 (by kernel_rfl) rfl)
  (digits_box Fence.wide _ trivial rfl (by omega) (w.heap.size + 1) m hm _ hB2) (by simp) (fun _ => rfl)
  (UInv 237 w g A xs) ?own ?box hU0
  (fun x => { tmps := #[.pointer (some ⟨g, 0, none⟩), .int .u64 m, .pointer (some ⟨w.heap.size, 0, none⟩), undef, bv x, .pointer (some ⟨g, 0, none⟩), .bool false, .bool false, .pointer (some ⟨g, 0, none⟩), .pointer (some ⟨g, 0, none⟩), .pointer (some ⟨g, 0, none⟩), .bool true, .bool false, .bool false, .int .u64 m, .func (.func 257) #[] #[.pointer (some ⟨w.heap.size + 1, 0, none⟩)], bv x, undef, undef, undef, undef, undef, undef, undef, undef, undef, undef], defers := [] }) ?assign ?body ?done
 case own =>
  rintro s W W' row ⟨h1, h2, v, h3⟩ hg hr
  refine ⟨h1.grown hg (fun r e => ⟨by have := (hr r e).1; simp at this; omega, (hr r e).2⟩), h2.kept hg ?_, v, h3.kept hg ?_⟩
  all_goals
   intro e
   have := (hr _ e.symm).1
   simp at this
   omega
 case box =>
  rintro s W v ⟨h1, h2, u, h3⟩
  exact ⟨h1.setNew h3 (by decide) (by decide) (by omega) 0 v, (hpFar (by simp)).trans h2, v, h3.set v⟩
 case assign =>
  intro l x W K hK
  gi_wp2
  exact hK
 case body =>
  rintro l pre x rest W hxs ⟨⟨A', c', hi, hmv, hch⟩, h2, v0, h3⟩
  have hlen : (enc m).length ≤ 10 := enc_len hm
  rw [hxs] at hlen
  simp only [List.length_append, List.length_cons] at hlen
  obtain ⟨g', cap, w1, hrun, hto, hgb, hgr⟩ := WrTo.push (T := 237) (w := w) (W := W.drew) (c := c') (A0 := A) (A := A') (xs := xs ++ pre) (x := x) (by decide) (show IsWr 237 W.drew g A' c' (xs ++ pre) from ⟨hi.blk, hi.own.drew⟩) hmv hch.drew hx (by rw [List.length_append]; omega)
  have c2 := h2.cell
  have x0 := hi.lt
  have x1 := h2.lt
  have c3 := blkC hi.blk 1
  have k2 : w1.heap[w.heap.size]? = W.heap[w.heap.size]? := hgr.block _ h2.lt (fun e => hi.rowNe (by decide) h2 (by decide) e.symm)
  have d2 := (show Boxed w1 w.heap.size 167 (.pointer (some ⟨g, 0, none⟩)) from k2.trans h2).cell
  have d3 := blkC (hgb.trans hi.blk) 1
  have f3 := blkF (hgb.trans hi.blk) 1
  rw [List.length_append] at hrun hto
  have hrun := (show (appSem #[189, 189] 189 #[.slice A' (xs.length + pre.length) c', .slice (some ⟨W.heap.size, 0, none⟩) 1 1]).run Tryz.prog ((W.alloc (.cells #[bv x] 5)).drew) = _ from hrun)
  simp only [bv] at hrun ⊢
  have hrc : ∀ (j : Nat) (o : Obj), rowOf A' = some j → W.heap[j]? = some o → o.isCells = true := by
   intro j o hj ho
   rcases hi.own.2 with ⟨e, _⟩ | ⟨k', cp, cur, e, _, hh, _⟩
   ·
    simp only [Value.slice.injEq] at e
    rw [e.1] at hj; cases hj
   ·
    simp only [Value.slice.injEq] at e
    rw [e.1] at hj
    injection hj with hj
    have hj : k' = j := hj
    subst hj
    rw [hh] at ho
    injection ho with ho
    subst ho
    rfl
  have hgw : W.grownBy w1 (rowOf A') := ⟨hgr.os, hgr.tape, hgr.output, hgr.size, hgr.block⟩
  have k3 : w1.heap[w.heap.size + 1]? = W.heap[w.heap.size + 1]? := hgr.block _ h3.lt (fun e => hi.rowNe (by decide) h3 (by decide) e.symm)
  have hfin := Lh (show boxPost (w.heap.size + 1 + 1) (w.heap.size + 1) (UInv 237 w g A xs) (pre ++ [x]) W .normal { tmps := #[], defers := [] } (w1.setCell ⟨g, 1, none⟩ (.slice (some ⟨g', 0, none⟩) (xs.length + pre.length + 1) cap)) from by
   refine ⟨((KeepsOthers.of_grownBy hgw hrc).trans (KeepsOthers.setCell _ _ _)).from _, (hpFar (by simp; omega)).trans k3, ?_, ?_, v0, ?_⟩
   ·
    rw [← List.append_assoc]; exact hto
   ·
    exact (hpFar (by simp; omega)).trans (k2.trans h2)
   ·
    exact (hpFar (by simp; omega)).trans (k3.trans h3))
  clear hto hgb hgr hgw hrc k3 hxs hi hmv hch hB1 hB2 hU0 hlen hx hm k2
  gi_wp2
  gi_region
  all_goals (simp only [Exit.inBlock, World.size_alloc]; exact hfin.out)
 case done =>
  rintro D W hD ⟨h1, h2⟩ hK
  gi_wp2
  refine ⟨by simp, .inl ⟨_, _, rfl, run_takeDeferred hK, ?_⟩⟩
  refine ⟨_, results_none rfl _ _ _, rfl, ?_⟩
  exact h1.grown (grownBy_putObj' W D _) (fun r e => by cases e; exact ⟨by simp at hD; omega, _, hK, rfl⟩)
theorem wUint_any (g : Nat) (A : Option Addr) (c : Nat) (xs : List UInt8) (m : Nat) (w : World) (h : IsWr 237 w g A c xs) (hm : m < 18446744073709551616) (hl : xs.length ≤ 1000000000) :
  Calls Tryz.prog 99 #[.pointer (some ⟨g, 0, none⟩), .int .u64 m] w fun e w' => e = .returned (.tuple #[]) ∧ WrTo 237 w g A (xs ++ enc m) w' :=
 callsIn_wide.1 (wUint_in g A c xs m w h hm hl)
end Go.Proofs.YtgnjnpddehdmcaaGreatDoor.Wi
