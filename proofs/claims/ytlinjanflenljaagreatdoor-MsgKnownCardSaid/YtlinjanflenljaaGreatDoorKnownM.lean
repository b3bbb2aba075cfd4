/- MsgKnown: slices of zeros. -/
import Derived.Test.YtlinjanflenljaaGreatDoorKnownC
import Derived.Laws.MakeOwn
namespace Go.Proofs.YtlinjanflenljaaGreatDoor
open Go.RowKit
set_option linter.unusedSimpArgs false
set_option linter.unusedVariables false
set_option linter.unusedSectionVars false
set_option maxRecDepth 10000
theorem elemU8 : Elem Tryz.prog 22 5 1 1 := elem_of (z := .int .u8 0) Tryz.underlying22 (by kernel_rfl) rfl (by omega)
theorem mk_zeros (w : World) (n : Nat) (hn : n ≤ 2000000) : ∃ W1, (Instr.makeSlice 22 (.int .i64 (n : Int)) (.int .i64 (n : Int))).run Tryz.prog w = .ok (.slice (some ⟨w.heap.size, 0, none⟩) n n) W1 ∧ RB W1 (some ⟨w.heap.size, 0, none⟩) n (List.replicate n 0) ∧ Below w.heap.size w W1 := by
  obtain ⟨hu, ⟨i, z, hi, hz0, hz1, hz2, hzc⟩, hp⟩ := elemU8
  obtain rfl : z = .int .u8 0 := by
    have h : (Tryz.prog.info? 5).map (fun i => i.zero) = some (some (.int .u8 0)) := by kernel_rfl
    rw [hi] at h
    simp [hz0] at h
    exact h
  have hr := run_makeSlice (P := Tryz.prog) w 22 5 i _ hu hi hz0 .i64 .i64 n n (by omega) (by omega) (by rw [hz1]; omega) (by rw [hz2]; omega) (by omega)
  rw [Int.toNat_natCast, hz1] at hr
  refine ⟨_, hr, ⟨by simp, fun _ => ⟨_, rfl, by simp, fun j u hj => ?_⟩⟩, (Below.refl _ _).alloc (Nat.le_refl _) _⟩
  have hjl : j < n := by have := (List.getElem?_eq_some_iff.1 hj).1; simpa [bvs] using this
  have hv : u = .int .u8 0 := by simp [bvs, List.getElem?_replicate, hjl] at hj; exact hj.symm
  subst hv
  rw [Addr.add_lit]
  refine (blkC (hpNew w _) _).trans ?_
  simp [madeCells, hjl, Value.cells, Nat.mod_one]
theorem long_sl (v : List UInt8) (n : Nat) (hn : v.length = n) (h1 : 1 ≤ n) (w : World) : (Instr.slice 9 (.string (sOf v)) (some (.int .i64 1)) none none).run Tryz.prog w = .ok (.string (sOf (v.drop 1))) w := by
  have hs : (sOf v).size = n := by rw [sOf_size, hn]
  have h := run_slice_string_l (P := Tryz.prog) w 9 (sOf v) (by kernel_rfl) .i64 1 (by omega) (by rw [hs]; omega)
  rw [h]
  congr 2
  have e : (1 : Int).toNat = 1 := rfl
  rw [e, hs]
  unfold sOf
  apply ByteArray.ext
  apply Array.toList_inj.1
  simp [ByteArray.extract, ByteArray.copySlice, ← hn]
  exact List.take_of_length_le (by simp)
theorem enc_e (m : Mg) (A : Option Addr) (c : Nat) (W : World) (hL : Ldr W) (hE : ES W A m.l.length m.l) (hn : m.l.length ≤ 70368744177664) (z : Int) (hz : encE m = z) : Calls Tryz.prog 17 #[.agg #[.int .i64 m.k, .int .i64 m.fr, .int .i64 m.tt, .int .i64 m.ro, .int .i64 m.no, .int .i64 m.sl, .int .i64 m.nu, .string (sOf m.v), .slice A m.l.length c]] W fun e w' => ∃ x, e = .returned (.tuple #[x, .int .i64 z]) ∧ Below W.heap.size W w' := by
  refine (enc_any m A c W hL hE hn).mono ?_
  rintro e w' ⟨A', c', rfl, -, b⟩
  exact ⟨_, by rw [hz], b⟩
theorem vlong_call (v : List UInt8) (hv : v.length = 65537) (W : World) (hL : Ldr W) : Calls Tryz.prog 17 #[.agg #[.int .i64 4, .int .i64 0, .int .i64 1, .int .i64 2, .int .i64 1, .int .i64 0, .int .i64 0, .string (sOf v), .slice none 0 0]] W fun e w' => ∃ x, e = .returned (.tuple #[x, .int .i64 11]) ∧ Below W.heap.size W w' :=
  enc_e ⟨4, 0, 1, 2, 1, 0, 0, v, []⟩ none 0 W hL (SL.nil _ _) (by simp) 11 (val_long hv)
theorem varg_call (v : List UInt8) (W : World) (hL : Ldr W) : Calls Tryz.prog 17 #[.agg #[.int .i64 4, .int .i64 0, .int .i64 1, .int .i64 0, .int .i64 0, .int .i64 0, .int .i64 0, .string (sOf v), .slice none 0 0]] W fun e w' => ∃ x, e = .returned (.tuple #[x, .int .i64 2]) ∧ Below W.heap.size W w' :=
  enc_e ⟨4, 0, 1, 0, 0, 0, 0, v, []⟩ none 0 W hL (SL.nil _ _) (by simp) 2 (val_arg v)
theorem many_call (v : List UInt8) (n : Nat) (hn : n ≤ 16) (A : Option Addr) (c : Nat) (W : World) (hL : Ldr W) (hE : ES W A n (mkE v 0 n)) (z : Int) (hz : encE (mMany v n) = z) : Calls Tryz.prog 17 #[.agg #[.int .i64 2, .int .i64 0, .int .i64 1, .int .i64 2, .int .i64 1, .int .i64 0, .int .i64 0, .string ⟨#[]⟩, .slice A n c]] W fun e w' => ∃ x, e = .returned (.tuple #[x, .int .i64 z]) ∧ Below W.heap.size W w' := by
  have hl : (mMany v n).l.length = n := mkE_len v n 0
  have h := enc_e (mMany v n) A c W hL (by rw [hl]; exact hE) (by rw [hl]; omega) z hz
  rw [hl] at h
  exact h
theorem one_call (v : List UInt8) (hv : v.length = 65537) (A : Option Addr) (c : Nat) (W : World) (hL : Ldr W) (hE : ES W A 1 [⟨0, 2, 1, v⟩]) : Calls Tryz.prog 17 #[.agg #[.int .i64 2, .int .i64 0, .int .i64 1, .int .i64 2, .int .i64 1, .int .i64 0, .int .i64 0, .string ⟨#[]⟩, .slice A 1 c]] W fun e w' => ∃ x, e = .returned (.tuple #[x, .int .i64 11]) ∧ Below W.heap.size W w' :=
  enc_e ⟨2, 0, 1, 2, 1, 0, 0, [], [⟨0, 2, 1, v⟩]⟩ A c W hL hE (by simp) 11 (one_long hv)
theorem dec_e {A : Option Addr} {n c : Nat} {xs : List UInt8} {W : World} (hL : Ldr W) (hR : RB W A n xs) (hn : n ≤ 70368744177664) (z : Int) (h : decM xs = (zeroMg, z)) : Calls Tryz.prog 13 #[.slice A n c] W fun e w' => ∃ A' c', e = .returned (.tuple #[.agg #[.int .i64 0, .int .i64 0, .int .i64 0, .int .i64 0, .int .i64 0, .int .i64 0, .int .i64 0, .string ⟨#[]⟩, .slice A' 0 c'], .int .i64 z]) ∧ Below W.heap.size W w' := by
  refine (dec_msg_any (c := c) hL hR hn h).mono ?_
  rintro e w' ⟨A', c', rfl, -, b⟩
  exact ⟨A', c', rfl, b⟩
end Go.Proofs.YtlinjanflenljaaGreatDoor
