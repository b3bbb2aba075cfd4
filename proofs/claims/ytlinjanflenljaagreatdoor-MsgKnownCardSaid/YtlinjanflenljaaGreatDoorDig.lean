/- The iterator over the bytes of a number: its contract. -/
import Derived.Test.YtlinjanflenljaaGreatDoorRange
import Derived.Test.YtlinjanflenljaaGreatDoorWPl
import Derived.Test.YtlinjanflenljaaGreatDoorWr
import Derived.Test.YtlinjanflenljaaGreatDoorBits
import Derived.Shelf.Abstract
import Derived.Shelf.RegionOpen
import Derived.WalkKit
import Derived.OwnWalkIn
import Derived.TacticsInMore
import Derived.LoopNIn
import Derived.LoopIn
import Derived.Outline
namespace Go.Proofs.YtlinjanflenljaaGreatDoor
open Go.RowKit Go.Shelf
set_option linter.unusedSimpArgs false
set_option linter.unusedVariables false
attribute [local go_sem] Oper.semAt_some

def boxN (W : World) (b : Nat) : Nat := match W.cell? ⟨b, 0, none⟩ with | some (.int _ k) => k.toNat | _ => 0
theorem boxN_eq {W : World} {b : Nat} {t : TypeId} {k : Nat} {q : IntKind} (h : Boxed W b t (.int q k)) : boxN W b = k := by simp [boxN, h.cell]

set_option maxRecDepth 100000 in
set_option maxHeartbeats 1000000 in
theorem digits1_in (F : Fence) (n : Nat) (hf : F.fn 125) (hro : F.round = none) (hn : 1 ≤ n) (l bn : Nat) (m : Nat) (hm : m < 18446744073709551616) (J : List UInt8 → World → Prop)
    (hJ : ∀ s A v, J s A → J s (A.setCell ⟨bn, 0, none⟩ v))
    (hY : ∀ pre x rest W1, enc m = pre ++ x :: rest → J pre W1 → YieldAt F (n - 1) Tryz.prog l #[bv x] W1 fun e W' => e = .returned (.bool true) ∧ J (pre ++ [x]) W' ∧ W'.heap[bn]? = W1.heap[bn]?)
    (W : World) (hB : Boxed W bn 71 (.int .u64 m)) (h0 : J [] W) :
    CallsIn F n Tryz.prog 125 #[.func (.yield l) #[] #[], .pointer (some ⟨bn, 0, none⟩)] W fun e W' => (∃ v, e = .returned v) ∧ J (enc m) W' := by
  refine callsIn_of_wp Tryz.func125 rfl hf ?_ hro
  simp only [Tryz.ntmps125, List.size_toArray, List.length_cons, List.length_nil, Nat.reduceAdd, Nat.reduceSub, Array.replicate_succ, Array.replicate_zero, List.push_toArray, List.append_toArray, List.nil_append, List.cons_append]
  gi_wp2
  gi_loopw [3] (fun _ wr => ∃ (pre : List UInt8) (k : Nat), k < 18446744073709551616 ∧ enc m = pre ++ enc k ∧ Boxed wr bn 71 (.int .u64 k) ∧ J pre wr) (fun _ wr => boxN wr bn)
  case atStart => exact ⟨[], m, hm, rfl, hB, h0⟩
  case round =>
    obtain ⟨pre, k, hk, he, hb, hj⟩ := hrel
    have hc := hb.cell
    have hfz := hb.frozen
    by_cases hlt : k < 128
    · rw [enc_lt (n := k) hlt] at he
      have hxv : (bv (UInt8.ofNat k) : Value) = .int .u8 (k : Int) := by unfold bv; rw [ofNat_toNat (by omega)]
      obtain ⟨fn, tmps, assign, body, hy, hR⟩ := hY pre _ [] wr he hj
      rw [hxv] at hy
      have he' := Lib.hid he
      clear he hxv
      gi_wp2
      refine hR.mono ?_
      rintro e W3 ⟨rfl, hj3, _⟩
      gi_wp2
      go_end0
      exact ⟨⟨_, rfl⟩, by rw [he'.out]; exact hj3⟩
    · rw [enc_ge (n := k) (by omega)] at he
      have hxv : (bv (UInt8.ofNat (k % 128 + 128)) : Value) = .int .u8 (bits .or .u8 ((k : Int) % 256) 128) := by unfold bv; rw [ofNat_toNat (by omega), or128]
      obtain ⟨fn, tmps, assign, body, hy, hR⟩ := hY pre _ _ wr he hj
      rw [hxv] at hy
      have he' := Lib.hid he
      clear he hxv
      gi_wp2
      refine hR.mono ?_
      rintro e W3 ⟨rfl, hj3, hk3⟩
      have hb3 : Boxed W3 bn 71 (.int .u64 k) := hk3.trans hb
      have hc3 := hb3.cell
      have hf3 := hb3.frozen
      clear hc hfz
      gi_wp2
      go_roundw
      case rel => exact ⟨pre ++ [UInt8.ofNat (k % 128 + 128)], k / 128, by omega, by rw [he'.out]; simp, hb3.set _, hJ _ _ _ hj3⟩
      case measure => rw [show ((k : Int) / 128) = ((k / 128 : Nat) : Int) from by omega, boxN_eq (k := k / 128) (hb3.set _), boxN_eq hb]; omega

set_option maxHeartbeats 1000000 in
/-- digits(n): the number is boxed; the function value captures the box. -/
theorem digits_in (F : Fence) (n : Nat) (hf : F.fn 111) (hro : F.round = none) (m : Nat) (w : World) :
    CallsIn F n Tryz.prog 111 #[.int .u64 m] w fun e w' => e = .returned (.func (.func 125) #[] #[.pointer (some ⟨w.heap.size, 0, none⟩)]) ∧ w' = w.alloc (.cells #[.int .u64 m] 71) := by
  refine callsIn_of_wp Tryz.func111 rfl hf ?_ hro
  simp only [Tryz.ntmps111, List.size_toArray, List.length_cons, List.length_nil, Nat.reduceAdd, Nat.reduceSub, Array.replicate_succ, Array.replicate_zero, List.push_toArray, List.append_toArray, List.nil_append, List.cons_append]
  gi_wp2
  go_ret
  exact ⟨rfl, rfl⟩
theorem digits_box (F : Fence) (n : Nat) (hf : F.fn 125) (hro : F.round = none) (hn : 1 ≤ n) (bn : Nat) (m : Nat) (hm : m < 18446744073709551616) (w : World) (hB : Boxed w bn 71 (.int .u64 m)) :
    SeqBox F n Tryz.prog 125 #[.pointer (some ⟨bn, 0, none⟩)] (fun x : UInt8 => #[bv x]) bn (enc m) w := fun l J W hW hJ hY h0 =>
  digits1_in F n hf hro hn l bn m hm J hJ hY W (hW.trans hB) h0
end Go.Proofs.YtlinjanflenljaaGreatDoor
