/- Readers: the program's reader and the reference's as blocks of memory; the number at the beginning of bytes. -/
import Derived.Test.YtgnjnpddehdmcaaGreatDoorWPush
import Derived.Lib.AppendStr
import Derived.Deep.AppendLies
import Derived.Test.YtgnjnpddehdmcaaGreatDoorHas
import Derived.Test.YtgnjnpddehdmcaaGreatDoorWUint
import Derived.WalkSpells
import Derived.WalkLawsBesides
namespace Go.Proofs.YtgnjnpddehdmcaaGreatDoor.Wi
open Go.RowKit Go.Lib
set_option linter.unusedSimpArgs false
set_option linter.unusedVariables false

theorem strCells_bvs (s : ByteArray) : strCells s = bvs s.data.toList := rfl

theorem IsWr.c0 {T : TypeId} {w : World} {g c : Nat} {A : Option Addr} {xs : List UInt8} (h : IsWr T w g A c xs) : w.cell? ⟨g, 0, none⟩ = some (.bool true) := blkC h.blk 0
theorem IsWr.c1 {T : TypeId} {w : World} {g c : Nat} {A : Option Addr} {xs : List UInt8} (h : IsWr T w g A c xs) : w.cell? ⟨g, 1, none⟩ = some (.slice A xs.length c) := blkC h.blk 1
theorem IsWr.fz {T : TypeId} {w : World} {g c : Nat} {A : Option Addr} {xs : List UInt8} (h : IsWr T w g A c xs) (i : Nat) : w.frozen? ⟨g, i, none⟩ = false := blkF h.blk i
def RB (w : World) (A : Option Addr) (n : Nat) (xs : List UInt8) : Prop :=
 xs.length = n ∧ (0 < n → ∃ ad, A = some ad ∧ ad.block < w.heap.size ∧ ∀ j u, (bvs xs)[j]? = some u → w.cell? (ad.add j) = some u)
theorem RB.of_own {w : World} {base n c : Nat} {A : Option Addr} {xs : List UInt8} (h : w.ownsRow base 5 1 (.slice A n c) n (bvs xs)) : RB w A n xs := by
 have hl : xs.length = n := by have := h.1; rw [bvs_length] at this; omega
 refine ⟨hl, fun hn => ?_⟩
 rcases h.2 with ⟨_, e⟩ | ⟨g, cap, cur, e, _, hh, _⟩
 ·
  omega
 ·
  have e0 := e
  simp only [Value.slice.injEq] at e0
  obtain ⟨rfl, _⟩ := e0
  exact ⟨_, rfl, blkX hh, h.cells (g := g) rfl⟩
theorem block_of_add (a : Addr) (n : Nat) : (a.add n).block = a.block := by unfold Addr.add; split <;> rfl
theorem RB.keep {w w' : World} {A : Option Addr} {n : Nat} {xs : List UInt8} (h : RB w A n xs) (hs : w.heap.size ≤ w'.heap.size) (hk : ∀ k, k < w.heap.size → rowOf A = some k → w'.heap[k]? = w.heap[k]?) : RB w' A n xs :=
 ⟨h.1, fun hn => by
  obtain ⟨ad, rfl, hb, hc⟩ := h.2 hn
  exact ⟨ad, rfl, by omega, fun j u hu => (World.cell?_of_block (w := w) (by rw [block_of_add]; exact hk _ hb rfl)).trans (hc j u hu)⟩⟩
theorem RB.below {w w' : World} {A : Option Addr} {n : Nat} {xs : List UInt8} (h : RB w A n xs) (hb : Below w.heap.size w w') : RB w' A n xs := h.keep hb.size fun k hk _ => hb.block k hk
theorem RB.chg {S : Nat → Prop} {w w' : World} {A : Option Addr} {n : Nat} {xs : List UInt8} (h : RB w A n xs) (hb : Chg S w w') (hr : ∀ k, rowOf A = some k → ¬ S k) : RB w' A n xs := h.keep hb.size fun k hk e => hb.block k hk (hr k e)

theorem IsWr.stored {T : TypeId} {w W w1 : World} {g c n' c' : Nat} {A0 A A' : Option Addr} {xs ys : List UInt8} (hT : T ≠ 5) (h : IsWr T W g A c xs) (hm : Moved w A0 A) (hch : Chg (wrS g A0) w W)
  (hown : w1.ownsRow 0 5 1 (.slice A' n' c') n' (bvs ys)) (hgr : W.grownBy w1 (rowOf A)) (hat : rowOf A' = rowOf A ∨ ∃ k, rowOf A' = some k ∧ W.heap.size ≤ k) :
  WrTo T w g A0 ys (w1.setCell ⟨g, 1, none⟩ (.slice A' n' c')) ∧ w1.heap[g]? = W.heap[g]? := by
 have hn : n' = ys.length := by have := hown.1; rw [bvs_length] at this; omega
 subst hn
 have hgb : w1.heap[g]? = W.heap[g]? := hgr.block g h.lt (fun e => h.rowNe hT h.blk hT e.symm)
 refine ⟨⟨A', c', ⟨?_, hown.1, ?_⟩, ?_, ?_⟩, hgb⟩
 ·
  have := hpSet (i := 1) (v := .slice A' ys.length c') (hgb.trans h.blk)
  simpa using this
 ·
  rcases hown.2 with e | ⟨k, cp, cur, e, hb, hh, rest⟩
  ·
   exact .inl e
  ·
   refine .inr ⟨k, cp, cur, e, hb, (hpFar ?_).trans hh, rest⟩
   rintro rfl
   rw [hgb, h.blk] at hh
   injection hh with hh
   injection hh with _ ht
   exact hT ht
 ·
  rcases hat with e | ⟨k, e, hk⟩
  ·
   rcases hm with e1 | ⟨k, e1, e2⟩
   ·
    exact .inl (e.trans e1)
   ·
    exact .inr ⟨k, e.trans e1, e2⟩
  ·
   exact .inr ⟨k, e, Nat.le_trans hch.size hk⟩
 ·
  refine Chg.setCell (hch.trans (Chg.of_grown (S := fun k => rowOf A = some k) hgr fun k e => e) ?_) (fun _ => Or.inl rfl) _
  intro k hk e
  rcases hm with e1 | ⟨k', e1, e2⟩
  ·
   exact .inr (e1.symm.trans e)
  ·
   rw [e] at e1; injection e1 with e1; omega

def Appended (T : TypeId) (w W : World) (g : Nat) (A0 : Option Addr) (ys : List UInt8) (run : Result Value) : Prop :=
 ∃ A' c' w1, run = .ok (.slice A' ys.length c') w1 ∧ WrTo T w g A0 ys (w1.setCell ⟨g, 1, none⟩ (.slice A' ys.length c')) ∧ w1.heap[g]? = W.heap[g]?

theorem IsWr.pushStr {T : TypeId} {w W : World} {g c : Nat} {A0 A : Option Addr} {xs : List UInt8} (hT : T ≠ 5) (h : IsWr T W g A c xs) (hm : Moved w A0 A) (hch : Chg (wrS g A0) w W) (s : ByteArray) (hl : xs.length + s.size ≤ 70368744177664) :
  Appended T w W g A0 (xs ++ s.data.toList) ((appSem #[189, 9] 189 #[.slice A xs.length c, .string s]).run Tryz.prog W) := by
 obtain ⟨i0, hi, hz0, hz1, hz2⟩ := info_parts byteInfo
 obtain ⟨v', w1, hrun, hown, hgr, _⟩ := run_append_own_string (P := Tryz.prog) W 0 189 9 189 5 i0 Tryz.underlying189 Tryz.underlying9 hi hz0 hz1 hz2 _ _ _ h.own s (by unfold maxLen; omega) (by omega) (Nat.zero_le _)
 have hv : (Value.slice A xs.length c).ownBlock = rowOf A := own_rowOf A _ _
 have hform : ∃ A' c', v' = .slice A' (xs.length + s.size) c' := by
  rcases hown.2 with ⟨e, e2⟩ | ⟨k, cp, cur, e, _⟩
  ·
   exact ⟨none, 0, by rw [e, e2]⟩
  ·
   exact ⟨_, _, e⟩
 obtain ⟨A', c', rfl⟩ := hform
 have hat : rowOf A' = rowOf A ∨ ∃ k, rowOf A' = some k ∧ W.heap.size ≤ k := by
  rcases h.own.2 with ⟨e, e2⟩ | ⟨k, cp, cur, e, _, hh, hnc, hcm, hcs, htk⟩
  ·
   simp only [Value.slice.injEq] at e
   obtain ⟨rfl, e3, rfl⟩ := e
   have hx : xs = [] := List.eq_nil_of_length_eq_zero e3
   subst hx
   obtain ⟨v2, w2, hr2, ho2, _⟩ := run_append_own_string (P := Tryz.prog) W W.heap.size 189 9 189 5 i0 Tryz.underlying189 Tryz.underlying9 hi hz0 hz1 hz2 _ _ _ (World.ownsRow_nil W W.heap.size 5 1) s (by unfold maxLen; simp at hl; omega) (by simp at hl; omega) (Nat.le_refl _)
   have := hrun.symm.trans hr2
   simp only [Result.ok.injEq] at this
   obtain ⟨rfl, rfl⟩ := this
   cases hA : A' with
   | none => exact .inl rfl
   | some ad => exact .inr ⟨ad.block, rfl, (ho2.lt ad.block (by rw [hA]; rfl)).1⟩
  ·
   simp only [Value.slice.injEq] at e
   obtain ⟨rfl, _, rfl⟩ := e
   by_cases hroom : xs.length + s.size ≤ c
   ·
    have hr := run_append_room_string (P := Tryz.prog) W 189 9 189 5 i0 Tryz.underlying189 Tryz.underlying9 hi hz1 k xs.length c cur hh s hroom (by omega)
    have := hrun.symm.trans hr
    simp only [Result.ok.injEq, Value.slice.injEq] at this
    obtain ⟨⟨rfl, _⟩, _⟩ := this
    exact .inl rfl
   ·
    have hr := run_append_grow_string (P := Tryz.prog) W 189 9 189 5 i0 (.int .u8 0) Tryz.underlying189 Tryz.underlying9 hi hz0 ⟨k, 0, none⟩ xs.length c (bvs xs) (by rw [hz1, bvs_length]; omega) (h.own.cells (g := k) rfl) s (by omega) (by omega) (by rw [hz2]; exact growslice_fits (by omega) (by omega))
    have := hrun.symm.trans hr
    simp only [Result.ok.injEq, Value.slice.injEq] at this
    obtain ⟨⟨rfl, _⟩, _⟩ := this
    exact .inr ⟨_, rfl, Nat.le_refl _⟩
 rw [hv] at hgr
 rw [strCells_bvs, ← bvs_append] at hown
 obtain ⟨h1, h2⟩ := h.stored hT hm hch hown hgr hat
 have hle : (xs ++ s.data.toList).length = xs.length + s.size := by rw [List.length_append, Array.length_toList]; rfl
 exact ⟨A', c', w1, by rw [hle]; exact hrun, by rw [hle]; exact h1, h2⟩

end Go.Proofs.YtgnjnpddehdmcaaGreatDoor.Wi

namespace Go.Proofs.YtgnjnpddehdmcaaGreatDoor.Wi
open Go.RowKit
set_option linter.unusedSimpArgs false
set_option linter.unusedVariables false
set_option maxHeartbeats 1000000 in
theorem zig_any (a : Int) (h1 : -9223372036854775808 ≤ a) (h2 : a ≤ 9223372036854775807) (w : World) :
  Calls Tryz.prog 196 #[.int .i64 a] w fun e w' => e = .returned (.int .u64 (zig a : Nat)) ∧ w = w' := by
 go_enter Tryz.func196, Tryz.ntmps196
 go_wp2_with (fail)
 go_ret
 exact ⟨ret_int (zig_bits a h1 h2), rfl⟩
end Go.Proofs.YtgnjnpddehdmcaaGreatDoor.Wi

namespace Go.Proofs.YtgnjnpddehdmcaaGreatDoor.Wi
open Go.RowKit
set_option linter.unusedVariables false
theorem bvs_ints (l : List UInt8) : bvs l = (l.map fun c => (c.toNat : Int)).map (Value.int .u8) := by simp [bvs, bv]
theorem clone_any {A : Option Addr} {n : Nat} {xs : List UInt8} {w : World} (h : RB w A n xs) (c : Nat) (hn : n ≤ 140737488355328) :
  Calls Tryz.prog 236 #[.slice A n c] w fun e w' => ∃ A' c', e = .returned (.slice A' n c') ∧ w'.ownsRow w.heap.size 5 1 (.slice A' n c') n (bvs xs) ∧ Below w.heap.size w w' := by
 obtain ⟨hl, hc⟩ := h
 cases A with
 | none =>
  have h0 : n = 0 := by
   rcases Nat.eq_zero_or_pos n with h0 | h0
   ·
    exact h0
   ·
    obtain ⟨ad, e, _⟩ := hc h0; cases e
  subst h0
  have hx : xs = [] := List.eq_nil_of_length_eq_zero hl
  subst hx
  refine (Tryz.bytes_Clone_nil 0 c w).mono ?_
  rintro e w' ⟨rfl, rfl⟩
  exact ⟨none, 0, rfl, World.ownsRow_nil _ _ _ _, Below.refl _ _⟩
 | some a =>
  refine (Tryz.bytes_Clone_at a n c (xs.map fun c => (c.toNat : Int)) w (by simpa using hl) hn ?_).mono ?_
  ·
   intro i hi
   obtain ⟨ad, e, _, hc⟩ := hc (by omega)
   have e2 : a = ad := Option.some.inj e
   rw [e2]
   refine hc i _ ?_
   rw [bvs_ints]
   simp [hl, hi]
  ·
   rintro e w' ⟨v', rfl, hown, _, hb⟩
   rw [← bvs_ints] at hown
   have hform : ∃ A' c', v' = .slice A' n c' := by
    rcases hown.2 with ⟨e, e2⟩ | ⟨k, cp, cur, e, _⟩
    ·
     exact ⟨none, 0, by rw [e, e2]⟩
    ·
     exact ⟨_, _, e⟩
   obtain ⟨A', c', rfl⟩ := hform
   exact ⟨A', c', rfl, hown, hb⟩
end Go.Proofs.YtgnjnpddehdmcaaGreatDoor.Wi

namespace Go.Proofs.YtgnjnpddehdmcaaGreatDoor.Wi
open Go.RowKit
set_option linter.unusedSimpArgs false
set_option linter.unusedVariables false
set_option linter.unusedSectionVars false
set_option maxRecDepth 10000
attribute [local go_sem ↓] hideAppend

set_option maxHeartbeats 1000000 in
theorem wNew_any (w : World) : Calls Tryz.prog 170 #[] w fun e w' => e = .returned (.pointer (some ⟨w.heap.size, 0, none⟩)) ∧ w' = w.alloc (.cells #[.bool true, .slice none 0 0] 237) := by
 go_enter Tryz.func170, Tryz.ntmps170
 go_wp2
 go_ret
 exact ⟨rfl, rfl⟩
section
variable (g : Nat) (A : Option Addr) (c : Nat) (xs : List UInt8) (w : World) (h : IsWr 237 w g A c xs) (hl : xs.length ≤ 1000000000)
include h hl
set_option maxHeartbeats 1000000 in
theorem wInt_any (a : Int) (h1 : -9223372036854775808 ≤ a) (h2 : a ≤ 9223372036854775807) :
    Calls Tryz.prog 111 #[.pointer (some ⟨g, 0, none⟩), .int .i64 a] w fun e w' => e = .returned (.tuple #[]) ∧ WrTo 237 w g A (xs ++ enc (zig a)) w' := by
  have hz := zig_lt h1 h2
  go_enter Tryz.func111, Tryz.ntmps111
  go_wp2_with (first
    | (go_at_call 196; refine (zig_any _ h1 h2 _).mono ?_; rintro e w' ⟨rfl, rfl⟩)
    | (go_at_call 99; refine (wUint_any g A c xs _ _ h hz hl).mono ?_; rintro e w' ⟨rfl, hw⟩))
  go_end0
  exact ⟨rfl, hw⟩
def IsBytes (w : World) (A : Option Addr) (c : Nat) (xs : List UInt8) (w' : World) : Prop := w'.ownsRow w.heap.size 5 1 (.slice A xs.length c) xs.length (bvs xs) ∧ Below w.heap.size w w'
set_option maxHeartbeats 1000000 in
theorem wBytes_any :
  Calls Tryz.prog 171 #[.pointer (some ⟨g, 0, none⟩)] w fun e w' => ∃ A' c', e = .returned (.slice A' xs.length c') ∧ IsBytes w A' c' xs w' := by
 have c1 := h.c1
 go_enter Tryz.func171, Tryz.ntmps171
 go_wp2_with (go_at_call 236; refine (clone_any (RB.of_own h.own) c (by omega)).mono ?_; rintro e w1 ⟨A1, k1, rfl, o1, b1⟩)
 go_ret
 exact ⟨A1, k1, rfl, o1, b1⟩
set_option maxHeartbeats 1000000 in
theorem wText_any (s : ByteArray) (hs : s.size ≤ 1000000000) :
  Calls Tryz.prog 122 #[.pointer (some ⟨g, 0, none⟩), .string s] w fun e w' => e = .returned (.tuple #[]) ∧ WrTo 237 w g A (xs ++ enc s.size ++ s.data.toList) w' := by
 go_enter Tryz.func122, Tryz.ntmps122
 go_wp2_with (go_at_call 99; refine (wUint_any g A c xs s.size _ h (by omega) hl).mono ?_; rintro e w1 ⟨rfl, A1, c1, i1, m1, k1⟩; have d0 := i1.c0; have d1 := i1.c1; have e1 := i1.fz 1; obtain ⟨A2, c2, w2, hrun, hto, hb2⟩ := i1.pushStr (w := w) (A0 := A) (by decide) m1 k1 s (by have := enc_len (n := s.size) (by omega); simp only [List.length_append]; omega); have d2 : w2.cell? ⟨g, 1, none⟩ = some (.slice A1 (xs ++ enc s.size).length c1) := blkC (hb2.trans i1.blk) 1; have e2 : w2.frozen? ⟨g, 1, none⟩ = false := blkF (hb2.trans i1.blk) 1; have hto := Lh hto; have hb2 := Lh hb2; generalize (xs ++ enc s.size ++ s.data.toList).length = n2 at *; generalize (xs ++ enc s.size).length = n1 at *)
 go_end0
 exact ⟨rfl, hto.out⟩
end
end Go.Proofs.YtgnjnpddehdmcaaGreatDoor.Wi

namespace Go.Proofs.YtgnjnpddehdmcaaGreatDoor.Wi
open Go.RowKit
set_option linter.unusedSimpArgs false
set_option linter.unusedVariables false
set_option linter.unusedSectionVars false
set_option maxRecDepth 10000

theorem RB.at_ {w : World} {A : Option Addr} {n : Nat} {xs : List UInt8} (h : RB w A n xs) {k : Nat} (hk : k < n) : ∃ ad x, A = some ad ∧ xs[k]? = some x ∧ w.cell? (ad.add k) = some (.int .u8 (x.toNat : Int)) := by
 obtain ⟨hl, h2⟩ := h
 obtain ⟨ad, e, _, hc⟩ := h2 (by omega)
 have hx : xs[k]? = some (xs[k]'(by omega)) := List.getElem?_eq_getElem (by omega)
 exact ⟨ad, _, e, hx, hc k _ (by simp [bvs, hx, bv])⟩
end Go.Proofs.YtgnjnpddehdmcaaGreatDoor.Wi
