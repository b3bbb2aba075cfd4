/- A writer grows by bytes: the append, and the store into the writer. -/
import Derived.Test.YtgnjnpddehdmcaaGreatDoorHas
import Derived.Test.YtgnjnpddehdmcaaGreatDoorShort
import Derived.Maps.AppendAt
import Derived.Deep.AppendLies
import Derived.Deep.Draws
import Derived.Laws.BitsAllLaws
import Derived.Laws.BitsLemmas
import Derived.IntWalk
import Derived.Test.YtgnjnpddehdmcaaGreatDoorRange
import Derived.Shelf.Abstract
import Derived.Shelf.RegionOpen
import Derived.WalkKit
import Derived.OwnWalkIn
import Derived.TacticsInMore
import Derived.LoopNIn
import Derived.LoopIn
import Derived.Outline
namespace Go.Proofs.YtgnjnpddehdmcaaGreatDoor.Wi
set_option linter.unusedVariables false
open Go.RowKit

def bv (c : UInt8) : Value := .int .u8 (c.toNat : Int)
def bvs (l : List UInt8) : List Value := l.map bv
theorem bvs_length (l : List UInt8) : (bvs l).length = l.length := by simp [bvs]
theorem bvs_append (l m : List UInt8) : bvs (l ++ m) = bvs l ++ bvs m := by simp [bvs]
structure Chg (S : Nat → Prop) (w w' : World) : Prop where
 os : w'.os = w.os
 tape : w'.tape = w.tape
 output : w'.output = w.output
 size : w.heap.size ≤ w'.heap.size
 block : ∀ k, k < w.heap.size → ¬ S k → w'.heap[k]? = w.heap[k]?
section
variable {S S' : Nat → Prop} {a w w' w'' : World}
theorem Chg.refl (S : Nat → Prop) (w : World) : Chg S w w := ⟨rfl, rfl, rfl, Nat.le_refl _, fun _ _ _ => rfl⟩
theorem Chg.trans (h : Chg S w w') (h' : Chg S' w' w'') (hS : ∀ k, k < w.heap.size → S' k → S k) : Chg S w w'' :=
 ⟨h'.os.trans h.os, h'.tape.trans h.tape, h'.output.trans h.output, Nat.le_trans h.size h'.size,
  fun k hk hn => (h'.block k (Nat.lt_of_lt_of_le hk h.size) fun q => hn (hS k hk q)).trans (h.block k hk hn)⟩
theorem Chg.of_below (h : Below w.heap.size w w') (S : Nat → Prop) : Chg S w w' := ⟨h.os, h.tape, h.output, h.size, fun k hk _ => h.block k hk⟩
theorem Chg.of_grown {row : Option Nat} (h : w.grownBy w' row) (hS : ∀ k, row = some k → S k) : Chg S w w' :=
 ⟨h.os, h.tape, h.output, h.size, fun k hk hn => h.block k hk fun e => hn (hS k e.symm)⟩
theorem Chg.below {B : Nat} (h : Chg S w w') (hB : B ≤ w.heap.size) (hS : ∀ k, k < B → ¬ S k) : Below B w w' :=
 ⟨h.os, h.tape, h.output, h.size, fun k hk => h.block k (Nat.lt_of_lt_of_le hk hB) (hS k hk)⟩
theorem Chg.belowAfter {B : Nat} (h0 : Below B a w) (h : Chg S w w') (hB : B ≤ w.heap.size) (hS : ∀ k, k < B → ¬ S k) : Below B a w' := h0.trans (h.below hB hS)
theorem Chg.drew (h : Chg S a w) : Chg S a w.drew := ⟨h.os, h.tape, h.output, h.size, h.block⟩
theorem Chg.drewN (h : Chg S a w) (n : Nat) : Chg S a (w.drewN n) := ⟨h.os, h.tape, h.output, h.size, h.block⟩
theorem Chg.alloc (h : Chg S a w) (o : Obj) : Chg S a (w.alloc o) :=
 ⟨h.os, h.tape, h.output, Nat.le_trans h.size (by simp), fun k hk hn => (Below.heap_alloc w o k (Nat.lt_of_lt_of_le hk h.size)).trans (h.block k hk hn)⟩
theorem Chg.setCell (h : Chg S a w) {p : Addr} (hp : p.block < a.heap.size → S p.block) (u : Value) : Chg S a (w.setCell p u) :=
 ⟨h.os, h.tape, h.output, by simpa [World.setCell] using h.size, fun k hk hn => (Below.heap_setCell w p u k (by rintro rfl; exact hn (hp hk))).trans (h.block k hk hn)⟩
theorem Chg.thenB (h : Chg S a w) (h' : Below w.heap.size w w') : Chg S a w' := h.trans (Chg.of_below h' S) fun _ _ q => q
end

def rowOf : Option Addr → Option Nat
 | some a => some a.block
 | none => none
theorem own_rowOf (A : Option Addr) (n c : Nat) : (Value.slice A n c).ownBlock = rowOf A := by cases A <;> rfl

structure IsWr (T : TypeId) (w : World) (g : Nat) (A : Option Addr) (c : Nat) (xs : List UInt8) : Prop where
 blk : w.heap[g]? = some (.cells #[.bool true, .slice A xs.length c] T (0, 0))
 own : w.ownsRow 0 5 1 (.slice A xs.length c) xs.length (bvs xs)
section
variable {T : TypeId} {w w' : World} {g c : Nat} {A : Option Addr} {xs : List UInt8} {S : Nat → Prop}
theorem IsWr.lt (h : IsWr T w g A c xs) : g < w.heap.size := blkX h.blk
theorem IsWr.rowLt (h : IsWr T w g A c xs) {k : Nat} (hk : rowOf A = some k) : k < w.heap.size := (h.own.lt k (by rw [own_rowOf]; exact hk)).2
theorem IsWr.rowNe (h : IsWr T w g A c xs) (hT : T ≠ 5) {g' : Nat} {T' : TypeId} {cs : Array Value} (hg : w.heap[g']? = some (.cells cs T' (0, 0))) (hT' : T' ≠ 5) : rowOf A ≠ some g' := by
 intro he
 rcases h.own.2 with ⟨hv, _⟩ | ⟨k, cap, cur, hv, _, hh, _⟩
 ·
  injection hv with hA; subst hA; cases he
 ·
  injection hv with hA
  subst hA
  injection he with he
  have he : k = g' := he
  subst he
  rw [hg] at hh
  injection hh with hh
  injection hh with _ ht
  exact hT' ht
theorem IsWr.keep (h : IsWr T w g A c xs) (hc : Chg S w w') (hg : ¬ S g) (hr : ∀ k, rowOf A = some k → ¬ S k) : IsWr T w' g A c xs := by
 refine ⟨(hc.block g h.lt hg).trans h.blk, h.own.1, ?_⟩
 rcases h.own.2 with hn | ⟨k, cap, cur, hv, hb, hh, rest⟩
 ·
  exact .inl hn
 ·
  refine .inr ⟨k, cap, cur, hv, hb, ?_, rest⟩
  injection hv with hA
  subst hA
  exact (hc.block k (blkX hh) (hr k rfl)).trans hh
theorem IsWr.below (h : IsWr T w g A c xs) (hb : Below w.heap.size w w') : IsWr T w' g A c xs := h.keep (Chg.of_below hb fun _ => False) (fun q => q) (fun _ _ q => q)
end
def wrS (g : Nat) (A : Option Addr) (k : Nat) : Prop := k = g ∨ rowOf A = some k
def Moved (w : World) (A A' : Option Addr) : Prop := rowOf A' = rowOf A ∨ ∃ k, rowOf A' = some k ∧ w.heap.size ≤ k
end Go.Proofs.YtgnjnpddehdmcaaGreatDoor.Wi

namespace Go.Proofs.YtgnjnpddehdmcaaGreatDoor.Wi
open Go.RowKit
theorem nat_or128 : ∀ x, x < 256 → x ||| 128 = x % 128 + 128 := by decide +kernel
theorem or128 (k : Nat) : bits .or .u8 ((k : Int) % 256) 128 = ((k % 128 + 128 : Nat) : Int) := by
 rw [show (k : Int) % 256 = ((k % 256 : Nat) : Int) from by omega, show (128 : Int) = ((128 : Nat) : Int) from rfl, u8_or_nat _ _ (Nat.mod_lt _ (by omega)) (by omega), nat_or128 _ (Nat.mod_lt _ (by omega))]
 congr 2
 omega
theorem u64_xor0 (a : Nat) (h1 : a < 18446744073709551616) : bits .xor .u64 (a : Int) 0 = (a : Int) := by
 rw [show (0 : Int) = ((0 : Nat) : Int) from rfl, u64_xor_nat _ _ h1 (by omega), Nat.xor_zero]
theorem u64_xorM (a : Nat) (h1 : a < 18446744073709551616) : bits .xor .u64 (a : Int) 18446744073709551615 = ((18446744073709551615 - a : Nat) : Int) := by
 have h := u64_xor_nat a 18446744073709551615 h1 (by omega)
 rw [show ((18446744073709551615 : Nat) : Int) = 18446744073709551615 from rfl] at h
 rw [h]
 congr 1
 have := BitVec.toNat_not (x := BitVec.ofNat 64 a)
 have h2 : (BitVec.ofNat 64 a ^^^ BitVec.allOnes 64).toNat = a ^^^ 18446744073709551615 := by
  rw [BitVec.toNat_xor, BitVec.toNat_ofNat, BitVec.toNat_allOnes, Nat.mod_eq_of_lt h1]
 rw [BitVec.xor_allOnes, this, BitVec.toNat_ofNat, Nat.mod_eq_of_lt h1] at h2
 rw [← h2]
theorem wrapU (n : Int) : IntKind.u64.wrap n = n % 18446744073709551616 := by simp [IntKind.wrap, IntKind.bits, IntKind.signed]
theorem zig_bits (a : Int) (h1 : -9223372036854775808 ≤ a) (h2 : a ≤ 9223372036854775807) :
  bits .xor .u64 (IntKind.u64.wrap (IntKind.u64.wrap a * 2)) (IntKind.u64.wrap (a / 9223372036854775808)) = ((zig a : Nat) : Int) := by
 rw [wrapU, wrapU, wrapU]
 rcases Int.lt_or_le a 0 with h | h
 ·
  rw [show a / 9223372036854775808 % 18446744073709551616 = 18446744073709551615 from by omega, show a % 18446744073709551616 * 2 % 18446744073709551616 = (((2 * a + 18446744073709551616).toNat : Nat) : Int) from by omega, u64_xorM _ (by omega)]
  unfold zig; rw [if_pos h]; omega
 ·
  rw [show a / 9223372036854775808 % 18446744073709551616 = 0 from by omega, show a % 18446744073709551616 * 2 % 18446744073709551616 = (((2 * a).toNat : Nat) : Int) from by omega, u64_xor0 _ (by omega)]
  unfold zig; rw [if_neg (by omega)]
end Go.Proofs.YtgnjnpddehdmcaaGreatDoor.Wi

namespace Go.Proofs.YtgnjnpddehdmcaaGreatDoor.Wi
open Go.RowKit Go.Shelf
set_option linter.unusedSimpArgs false
set_option linter.unusedVariables false
attribute [local go_sem] Oper.semAt_some

def boxN (W : World) (b : Nat) : Nat := match W.cell? ⟨b, 0, none⟩ with | some (.int _ k) => k.toNat | _ => 0
theorem boxN_eq {W : World} {b : Nat} {t : TypeId} {k : Nat} {q : IntKind} (h : Boxed W b t (.int q k)) : boxN W b = k := by simp [boxN, h.cell]

set_option maxRecDepth 100000 in
set_option maxHeartbeats 1000000 in
theorem digits1_in (F : Fence) (n : Nat) (hf : F.fn 257) (hro : F.round = none) (hn : 1 ≤ n) (l bn : Nat) (m : Nat) (hm : m < 18446744073709551616) (J : List UInt8 → World → Prop)
  (hJ : ∀ s A v, J s A → J s (A.setCell ⟨bn, 0, none⟩ v))
  (hY : ∀ pre x rest W1, enc m = pre ++ x :: rest → J pre W1 → YieldAt F (n - 1) Tryz.prog l #[bv x] W1 fun e W' => e = .returned (.bool true) ∧ J (pre ++ [x]) W' ∧ W'.heap[bn]? = W1.heap[bn]?)
  (W : World) (hB : Boxed W bn 169 (.int .u64 m)) (h0 : J [] W) :
  CallsIn F n Tryz.prog 257 #[.func (.yield l) #[] #[], .pointer (some ⟨bn, 0, none⟩)] W fun e W' => (∃ v, e = .returned v) ∧ J (enc m) W' := by
 refine callsIn_of_wp Tryz.func257 rfl hf ?_ hro
 simp only [Tryz.ntmps257, List.size_toArray, List.length_cons, List.length_nil, Nat.reduceAdd, Nat.reduceSub, Array.replicate_succ, Array.replicate_zero, List.push_toArray, List.append_toArray, List.nil_append, List.cons_append]
 gi_wp2
 gi_loopw [3] (fun _ wr => ∃ (pre : List UInt8) (k : Nat), k < 18446744073709551616 ∧ enc m = pre ++ enc k ∧ Boxed wr bn 169 (.int .u64 k) ∧ J pre wr) (fun _ wr => boxN wr bn)
 case atStart => exact ⟨[], m, hm, rfl, hB, h0⟩
 case round =>
  obtain ⟨pre, k, hk, he, hb, hj⟩ := hrel
  have hc := hb.cell
  have hfz := hb.frozen
  by_cases hlt : k < 128
  ·
   rw [enc_lt (n := k) hlt] at he
   have hxv : (bv (UInt8.ofNat k) : Value) = .int .u8 (k : Int) := by unfold bv; rw [ofNat_toNat (by omega)]
   obtain ⟨fn, tmps, assign, body, hy, hR⟩ := hY pre _ [] wr he hj
   rw [hxv] at hy
   have he' := Lh he
   clear he hxv
   gi_wp2
   refine hR.mono ?_
   rintro e W3 ⟨rfl, hj3, _⟩
   gi_wp2
   go_end0
   exact ⟨⟨_, rfl⟩, by rw [he'.out]; exact hj3⟩
  ·
   rw [enc_ge (n := k) (by omega)] at he
   have hxv : (bv (UInt8.ofNat (k % 128 + 128)) : Value) = .int .u8 (bits .or .u8 ((k : Int) % 256) 128) := by unfold bv; rw [ofNat_toNat (by omega), or128]
   obtain ⟨fn, tmps, assign, body, hy, hR⟩ := hY pre _ _ wr he hj
   rw [hxv] at hy
   have he' := Lh he
   clear he hxv
   gi_wp2
   refine hR.mono ?_
   rintro e W3 ⟨rfl, hj3, hk3⟩
   have hb3 : Boxed W3 bn 169 (.int .u64 k) := hk3.trans hb
   have hc3 := hb3.cell
   have hf3 := hb3.frozen
   clear hc hfz
   gi_wp2
   go_roundw
   case rel => exact ⟨pre ++ [UInt8.ofNat (k % 128 + 128)], k / 128, by omega, by rw [he'.out]; simp, hb3.set _, hJ _ _ _ hj3⟩
   case measure => rw [show ((k : Int) / 128) = ((k / 128 : Nat) : Int) from by omega, boxN_eq (k := k / 128) (hb3.set _), boxN_eq hb]; omega

set_option maxHeartbeats 1000000 in
theorem digits_in (F : Fence) (n : Nat) (hf : F.fn 190) (hro : F.round = none) (m : Nat) (w : World) :
  CallsIn F n Tryz.prog 190 #[.int .u64 m] w fun e w' => e = .returned (.func (.func 257) #[] #[.pointer (some ⟨w.heap.size, 0, none⟩)]) ∧ w' = w.alloc (.cells #[.int .u64 m] 169) := by
 refine callsIn_of_wp Tryz.func190 rfl hf ?_ hro
 simp only [Tryz.ntmps190, List.size_toArray, List.length_cons, List.length_nil, Nat.reduceAdd, Nat.reduceSub, Array.replicate_succ, Array.replicate_zero, List.push_toArray, List.append_toArray, List.nil_append, List.cons_append]
 gi_wp2
 go_ret
 exact ⟨rfl, rfl⟩
theorem digits_box (F : Fence) (n : Nat) (hf : F.fn 257) (hro : F.round = none) (hn : 1 ≤ n) (bn : Nat) (m : Nat) (hm : m < 18446744073709551616) (w : World) (hB : Boxed w bn 169 (.int .u64 m)) :
  SeqBox F n Tryz.prog 257 #[.pointer (some ⟨bn, 0, none⟩)] (fun x : UInt8 => #[bv x]) bn (enc m) w := fun l J W hW hJ hY h0 =>
 digits1_in F n hf hro hn l bn m hm J hJ hY W (hW.trans hB) h0
end Go.Proofs.YtgnjnpddehdmcaaGreatDoor.Wi

namespace Go.Proofs.YtgnjnpddehdmcaaGreatDoor.Wi
open Go.RowKit Go.Shelf
set_option linter.unusedSimpArgs false
set_option linter.unusedVariables false
attribute [local go_sem] Oper.semAt_some

def appSem (ts : Array TypeId) (ty : TypeId) (args : Array Value) : Sem Value := Builtin.append_ ts ty args
theorem hideAppend (ts : Array TypeId) (ty : TypeId) (args : Array Value) : Builtin.append_ ts ty args = appSem ts ty args := rfl
attribute [local go_sem ↓] hideAppend

theorem IsWr.grown {T : TypeId} {w w' : World} {g c : Nat} {A : Option Addr} {xs : List UInt8} {row : Option Nat} (h : IsWr T w g A c xs) (hg : w.grownBy w' row) (hr : ∀ r, row = some r → ∃ o : Obj, w.heap[r]? = some o ∧ o.isCells = false) : IsWr T w' g A c xs := by
 refine h.keep (S := fun k => row = some k) (Chg.of_grown hg fun k e => e) ?_ ?_
 ·
  intro e
  obtain ⟨o, ho, hc⟩ := hr _ e
  rw [h.blk] at ho
  injection ho with ho
  subst ho
  cases hc
 ·
  intro k hk e
  obtain ⟨o, ho, hc⟩ := hr _ e
  rcases h.own.2 with ⟨hv, _⟩ | ⟨k', cap, cur, hv, _, hh, _⟩
  ·
   injection hv with hA; subst hA; cases hk
  ·
   injection hv with hA
   subst hA
   injection hk with hk
   have hk : k' = k := hk
   subst hk
   rw [hh] at ho
   injection ho with ho
   subst ho
   cases hc
theorem byteInfo : (Tryz.prog.info? 5).map (fun i => (i.zero, i.size, i.bytes)) = some (some (.int .u8 0), 1, 1) := by kernel_rfl
def WrTo (T : TypeId) (w : World) (g : Nat) (A : Option Addr) (ys : List UInt8) (w' : World) : Prop :=
 ∃ A' c', IsWr T w' g A' c' ys ∧ Moved w A A' ∧ Chg (wrS g A) w w'
theorem WrTo.push {T : TypeId} {w W : World} {g c : Nat} {A0 A : Option Addr} {xs : List UInt8} {x : UInt8} (hT : T ≠ 5) (h : IsWr T W g A c xs) (hm : Moved w A0 A) (hch : Chg (wrS g A0) w W) (hw : g < w.heap.size) (hl : xs.length + 1 ≤ 70368744177664) :
  ∃ g' cap w1, (appSem #[189, 189] 189 #[.slice A xs.length c, .slice (some ⟨W.heap.size, 0, none⟩) 1 1]).run Tryz.prog (W.alloc (.cells #[bv x] 5)) = .ok (.slice (some ⟨g', 0, none⟩) (xs.length + 1) cap) w1 ∧
   WrTo T w g A0 (xs ++ [x]) (w1.setCell ⟨g, 1, none⟩ (.slice (some ⟨g', 0, none⟩) (xs.length + 1) cap)) ∧ w1.heap[g]? = W.heap[g]? ∧ W.grownBy w1 (rowOf A) := by
 obtain ⟨i0, hi, hz0, hz1, hz2⟩ := info_parts byteInfo
 have hv : (Value.slice A xs.length c).ownBlock = rowOf A := own_rowOf A _ _
 obtain ⟨v', w1, hrun, hown, hgr, _, hat⟩ := run_append_own_at (P := Tryz.prog) (W.alloc (.cells #[bv x] 5)) 0 189 189 5 i0 (.int .u8 0) 1 1 Tryz.underlying189 hi hz0 hz1 hz2 rfl (by decide) _ _ _ (h.own.alloc (.cells #[bv x] 5)) ⟨W.heap.size, 0, none⟩ 1 1 [bv x] rfl
  (by intro j u hu; exact (cell_one_new W (bv x) _) j u hu) (by simp [bv, Value.oneCell']) (by unfold maxLen; omega) (by omega) (Nat.zero_le _)
 obtain ⟨g', cap, rfl⟩ := ownsRow_succ hown
 rw [hv] at hgr hat
 have hg1 : W.grownBy w1 (rowOf A) := ⟨hgr.os, hgr.tape, hgr.output, Nat.le_trans (by simp) hgr.size, fun k hk hn => (hgr.block k (by simp; omega) hn).trans (Below.heap_alloc W _ k hk)⟩
 have hne : rowOf A ≠ some g := h.rowNe hT h.blk hT
 have hgb : w1.heap[g]? = W.heap[g]? := hg1.block g h.lt (fun e => hne e.symm)
 refine ⟨g', cap, w1, hrun, ?_, hgb, hg1⟩
 have hg'g : g' ≠ g := by
  rintro rfl
  rcases hown.2 with ⟨e, _⟩ | ⟨k, cp, cur, e, _, hh, _⟩
  ·
   cases e
  ·
   simp only [Value.slice.injEq, Option.some.injEq, Addr.mk.injEq] at e
   obtain ⟨⟨rfl, _⟩, _⟩ := e
   rw [hgb, h.blk] at hh
   injection hh with hh
   injection hh with _ ht
   exact hT ht
 refine ⟨some ⟨g', 0, none⟩, cap, ⟨?_, ?_⟩, ?_, ?_⟩
 ·
  have := hpSet (i := 1) (v := .slice (some ⟨g', 0, none⟩) (xs.length + 1) cap) (hgb.trans h.blk)
  simpa using this
 ·
  have ho : w1.ownsRow 0 5 1 (.slice (some ⟨g', 0, none⟩) (xs ++ [x]).length cap) (xs ++ [x]).length (bvs (xs ++ [x])) := by
   rw [bvs_append, List.length_append]; exact hown
  refine ⟨ho.1, ?_⟩
  rcases ho.2 with e | ⟨k, cp, cur, e, hb, hh, rest⟩
  ·
   exact .inl e
  ·
   have e0 := e
   simp only [Value.slice.injEq, Option.some.injEq, Addr.mk.injEq] at e0
   obtain ⟨⟨rfl, _⟩, _⟩ := e0
   exact .inr ⟨g', cp, cur, e, hb, (hpFar hg'g).trans hh, rest⟩
 ·
  have hat' : rowOf A = some g' ∨ g' = W.heap.size + 1 := by
   rcases hat with e | e
   ·
    exact .inl e.symm
   ·
    right; simp [Value.ownBlock] at e; exact e
  rcases hat' with e | e
  ·
   rcases hm with e1 | ⟨k, e1, e2⟩
   ·
    exact .inl (e.symm.trans e1)
   ·
    exact .inr ⟨g', rfl, by rw [e] at e1; injection e1 with e1; omega⟩
  ·
   exact .inr ⟨g', rfl, by rw [e]; exact Nat.le_succ_of_le hch.size⟩
 ·
  refine Chg.setCell (hch.trans (Chg.of_grown (S := fun k => rowOf A = some k) hg1 fun k e => e) ?_) (fun _ => Or.inl rfl) _
  intro k hk e
  rcases hm with e1 | ⟨k', e1, e2⟩
  ·
   exact .inr (e1.symm.trans e)
  ·
   rw [e] at e1; injection e1 with e1; omega
def UInv (T : TypeId) (w : World) (g : Nat) (A : Option Addr) (xs : List UInt8) (pre : List UInt8) (W : World) : Prop :=
 (WrTo T w g A (xs ++ pre) W ∧ Boxed W w.heap.size 167 (.pointer (some ⟨g, 0, none⟩)) ∧ ∃ v, Boxed W (w.heap.size + 1) 169 v)
theorem Moved.refl (w : World) (A : Option Addr) : Moved w A A := .inl rfl
theorem WrTo.refl {T : TypeId} {w : World} {g c : Nat} {A : Option Addr} {xs : List UInt8} (h : IsWr T w g A c xs) : WrTo T w g A xs w := ⟨A, c, h, Moved.refl w A, Chg.refl _ w⟩
theorem WrTo.grown {T : TypeId} {w W W' : World} {g : Nat} {A : Option Addr} {ys : List UInt8} {row : Option Nat} (h : WrTo T w g A ys W) (hg : W.grownBy W' row) (hr : ∀ r, row = some r → w.heap.size ≤ r ∧ ∃ o : Obj, W.heap[r]? = some o ∧ o.isCells = false) : WrTo T w g A ys W' := by
 obtain ⟨A', c', h1, h2, h3⟩ := h
 exact ⟨A', c', h1.grown hg fun r e => (hr r e).2, h2, h3.trans (Chg.of_grown (S := fun k => row = some k) hg fun k e => e) fun k hk e => by have := (hr k e).1; omega⟩
theorem WrTo.setNew {T : TypeId} {w W : World} {g : Nat} {A : Option Addr} {ys : List UInt8} (h : WrTo T w g A ys W) {b : Nat} {cs : Array Value} {t : TypeId} (hb : W.heap[b]? = some (.cells cs t (0, 0))) (ht1 : t ≠ T) (ht2 : t ≠ 5) (hw : w.heap.size ≤ b) (i : Nat) (v : Value) : WrTo T w g A ys (W.setCell ⟨b, i, none⟩ v) := by
 obtain ⟨A', c', h1, h2, h3⟩ := h
 refine ⟨A', c', h1.keep (S := fun k => k = b) ((Chg.refl (fun k => k = b) W).setCell (p := ⟨b, i, none⟩) (fun _ => rfl) v) ?_ ?_, h2, h3.setCell (fun q => absurd q (by simp only; omega)) v⟩
 ·
  rintro rfl
  rw [h1.blk] at hb
  injection hb with hb; injection hb with _ hb
  exact ht1 hb.symm
 ·
  rintro k hk rfl
  rcases h1.own.2 with ⟨e, _⟩ | ⟨k', cp, cur, e, _, hh, _⟩
  ·
   simp only [Value.slice.injEq] at e
   rw [e.1] at hk; cases hk
  ·
   simp only [Value.slice.injEq] at e
   rw [e.1] at hk
   injection hk with hk
   have hk : k' = k := hk
   subst hk
   rw [hb] at hh
   injection hh with hh; injection hh with _ hh
   exact ht2 hh

end Go.Proofs.YtgnjnpddehdmcaaGreatDoor.Wi
