/- The reference's writer of messages: its calls, and kinds. -/
import Derived.Test.YtlinjanflenljaaGreatDoorRUse
import Derived.Test.YtlinjanflenljaaGreatDoorWrM
import Derived.Test.YtlinjanflenljaaGreatDoorRefX
import Derived.Test.YtlinjanflenljaaGreatDoorWrite
namespace Go.Proofs.YtlinjanflenljaaGreatDoor
open Go.RowKit
set_option linter.unusedSimpArgs false
set_option linter.unusedVariables false
set_option linter.unusedSectionVars false
set_option maxRecDepth 10000
/-- The reference's writer. -/
abbrev RW := WB 133
section
variable {w0 W : World} {g : Nat} {ks : List Kp} {ys : List UInt8}
theorem RWB.uint (h : RW w0 g ks ys W) (v : Int) (x : Nat) (hv : v = (x : Int)) (hx : x < 18446744073709551616) (hl : ys.length ≤ 1000000000) :
    Calls Tryz.prog 100 #[.pointer (some ⟨g, 0, none⟩), .int .u64 v] W fun e w' => e = .returned (.tuple #[]) ∧ RW w0 g ks (ys ++ enc x) w' := by
  subst hv
  exact h.step (by decide) fun A c hi => rUint_any g A c ys W hi hl x hx
theorem RWB.text (h : RW w0 g ks ys W) (v : List UInt8) (hv : v.length ≤ 100000) (hl : ys.length ≤ 900000000) :
    Calls Tryz.prog 101 #[.pointer (some ⟨g, 0, none⟩), .string (sOf v)] W fun e w' => e = .returned (.tuple #[]) ∧ RW w0 g ks (ys ++ (enc v.length ++ v)) w' := by
  have hz := sOf_size v
  refine (h.step (by decide) fun A c hi => rText_any g A c ys W hi (by omega) (sOf v) (by omega)).mono ?_
  rintro e w' ⟨rfl, h2⟩
  refine ⟨rfl, h2.cast ?_⟩
  rw [hz, sOf_list, List.append_assoc]
end
set_option maxHeartbeats 32000000 in
theorem rwrite_TTFFF (m : Mg) (A : Option Addr) (c : Nat) (w : World) (hf : FitM m) (hE : ES w A m.l.length m.l) (hb : uB m.k = true) (hs : uS m.k = true) (hn : uN m.k = false) (hv : uV m.k = false) (hl : uL m.k = false) (hnil : m.l = []) :
    Calls Tryz.prog 47 #[.agg #[.int .i64 m.k, .int .i64 m.fr, .int .i64 m.tt, .int .i64 m.ro, .int .i64 m.no, .int .i64 m.sl, .int .i64 m.nu, .string (sOf m.v), .slice A m.l.length c]] w fun e w' => ∃ A' c', e = .returned (.slice A' (bytesM m).length c') ∧ IsBytes w A' c' (bytesM m) w' := by
  have hd := hf.hd
  simp only [headOK, decide_eq_true_eq] at hd
  obtain ⟨d1, d2, d3, d4, d5, d6, d7⟩ := hd
  obtain ⟨⟨f0, f1⟩, ⟨f2, f3⟩⟩ := hf.b; obtain ⟨f4, f5⟩ := hf.s; obtain ⟨f6, f7⟩ := hf.n; have f8 := hf.v; have f9 := hf.ln
  have ek := enc_len (n := m.k.toNat) (by omega)
  have efr := enc_len (n := m.fr.toNat) (by omega)
  have ett := enc_len (n := m.tt.toNat) (by omega)
  have ero := enc_len (n := m.ro.toNat) (by omega)
  have eno := enc_len (n := m.no.toNat) (by omega)
  have esl := enc_len (n := m.sl.toNat) (by omega)
  have enu := enc_len (n := m.nu.toNat) (by omega)
  have ev := enc_len (n := m.v.length) (by omega)
  have en := enc_len (n := m.l.length) (by omega)
  obtain ⟨n, hN⟩ : ∃ n, n = m.l.length := ⟨_, rfl⟩
  rw [← hN] at hE en f9 ⊢
  obtain ⟨z0, hz0⟩ : ∃ z, z = ([] : List UInt8) ++ enc m.k.toNat := ⟨_, rfl⟩
  have L0 : z0.length ≤ 10 := by rw [hz0]; simpa using ek
  obtain ⟨z1, hz1⟩ : ∃ z, z = z0 ++ enc m.fr.toNat := ⟨_, rfl⟩
  have L1 : z1.length ≤ 20 := by rw [hz1]; simp only [List.length_append]; omega
  obtain ⟨z2, hz2⟩ : ∃ z, z = z1 ++ enc m.tt.toNat := ⟨_, rfl⟩
  have L2 : z2.length ≤ 30 := by rw [hz2]; simp only [List.length_append]; omega
  obtain ⟨z3, hz3⟩ : ∃ z, z = z2 ++ enc m.ro.toNat := ⟨_, rfl⟩
  have L3 : z3.length ≤ 40 := by rw [hz3]; simp only [List.length_append]; omega
  obtain ⟨z4, hz4⟩ : ∃ z, z = z3 ++ enc m.no.toNat := ⟨_, rfl⟩
  have L4 : z4.length ≤ 50 := by rw [hz4]; simp only [List.length_append]; omega
  obtain ⟨z5, hz5⟩ : ∃ z, z = z4 ++ enc m.sl.toNat := ⟨_, rfl⟩
  have L5 : z5.length ≤ 60 := by rw [hz5]; simp only [List.length_append]; omega
  have hfin : bytesM m = z5 ++ bEnts m.l := by
    have q1 : bB m = enc m.ro.toNat ++ enc m.no.toNat := by unfold bB; rw [hb]; rfl
    have q2 : bS m = enc m.sl.toNat := by unfold bS; rw [hs]; rfl
    have q3 : bN m = [] := by unfold bN; rw [hn]; rfl
    have q4 : bV m = [] := by unfold bV; rw [hv]; rfl
    have q5 : bL m = bEnts m.l := by unfold bL; rw [hl]; rw [hnil]; rfl
    unfold bytesM bHead
    rw [q1, q2, q3, q4, q5, hz5, hz4, hz3, hz2, hz1, hz0]
    simp only [List.append_assoc, List.nil_append, List.append_nil]
  replace hz0 := Lib.hid hz0
  replace hz1 := Lib.hid hz1
  replace hz2 := Lib.hid hz2
  replace hz3 := Lib.hid hz3
  replace hz4 := Lib.hid hz4
  replace hz5 := Lib.hid hz5
  have us := fun W => uses_any m.k ⟨d1, d2⟩ W
  simp only [hb, hs, hn, hv, hl] at us
  replace us := Lib.hid us
  have h0 : RW w (w.heap.size + 1) [(w.heap.size, #[.int .i64 m.k, .int .i64 m.fr, .int .i64 m.tt, .int .i64 m.ro, .int .i64 m.no, .int .i64 m.sl, .int .i64 m.nu, .string (sOf m.v), .slice A n c], 28)] [] ((w.alloc (.cells #[.int .i64 m.k, .int .i64 m.fr, .int .i64 m.tt, .int .i64 m.ro, .int .i64 m.no, .int .i64 m.sl, .int .i64 m.nu, .string (sOf m.v), .slice A n c] 28)).alloc (.cells #[.bool true, .slice none 0 0] 133)) := by
    have b2 : Below w.heap.size w (w.alloc (.cells #[.int .i64 m.k, .int .i64 m.fr, .int .i64 m.tt, .int .i64 m.ro, .int .i64 m.no, .int .i64 m.sl, .int .i64 m.nu, .string (sOf m.v), .slice A n c] 28)) := (Below.refl _ w).alloc (Nat.le_refl _) _
    refine ⟨by omega, b2.alloc (by simp) _, ⟨none, 0, ⟨hpNewAt _ (by simp), World.ownsRow_nil _ _ _ _⟩, fun k hk => by cases hk⟩, fun x hx => ?_⟩
    simp only [List.mem_cons, List.not_mem_nil, or_false] at hx
    subst hx
    exact ⟨(hpOld _ (by simp)).trans (hpNew _ _), (show 28 ≠ 5 from by decide), by simp⟩
  replace h0 := Lib.hid h0; replace hE := Lib.hid hE; replace hfin := Lib.hid hfin; replace hN := Lib.hid hN; replace hf := Lib.hid hf; replace hnil := Lib.hid hnil
  replace hb := Lib.hid hb; replace hs := Lib.hid hs; replace hn := Lib.hid hn; replace hv := Lib.hid hv; replace hl := Lib.hid hl
  clear ek efr ett ero eno esl enu ev en
  go_enter Tryz.func47, Tryz.ntmps47
  go_wp2_with (fail)
  refine (rNew_any _).mono ?_
  rintro e w3 ⟨rfl, rfl⟩
  obtain ⟨W0, hW0⟩ : ∃ W, W = ((w.alloc (.cells #[.int .i64 m.k, .int .i64 m.fr, .int .i64 m.tt, .int .i64 m.ro, .int .i64 m.no, .int .i64 m.sl, .int .i64 m.nu, .string (sOf m.v), .slice A n c] 28)).alloc (.cells #[.bool true, .slice none 0 0] 133)) := ⟨_, rfl⟩
  rw [← hW0] at h0
  skip
  have u0 : W0.cell? ⟨w.heap.size, 0, none⟩ = some (.int .i64 m.k) := blkC h0.out.blk 0
  have u1 : W0.cell? ⟨w.heap.size, 1, none⟩ = some (.int .i64 m.fr) := blkC h0.out.blk 1
  have u2 : W0.cell? ⟨w.heap.size, 2, none⟩ = some (.int .i64 m.tt) := blkC h0.out.blk 2
  have u3 : W0.cell? ⟨w.heap.size, 3, none⟩ = some (.int .i64 m.ro) := blkC h0.out.blk 3
  have u4 : W0.cell? ⟨w.heap.size, 4, none⟩ = some (.int .i64 m.no) := blkC h0.out.blk 4
  have u5 : W0.cell? ⟨w.heap.size, 5, none⟩ = some (.int .i64 m.sl) := blkC h0.out.blk 5
  have u6 : W0.cell? ⟨w.heap.size, 6, none⟩ = some (.int .i64 m.nu) := blkC h0.out.blk 6
  have u7 : W0.cell? ⟨w.heap.size, 7, none⟩ = some (.string (sOf m.v)) := blkC h0.out.blk 7
  have u8 : W0.cell? ⟨w.heap.size, 8, none⟩ = some (.slice A n c) := blkC h0.out.blk 8
  have lU := blkX h0.out.blk
  rw [← hW0]
  clear hW0
  go_wp2_with (fail)
  refine (us.out _).mono ?_
  rintro e w4 ⟨rfl, rfl⟩
  clear us
  go_wp2_with (fail)
  refine (RWB.uint h0.out _ m.k.toNat (by first | rfl | (simp [IntKind.wrap, IntKind.signed, IntKind.bits]; omega)) (by omega) (by simp)).mono ?_
  rintro e W1 ⟨rfl, h1⟩
  replace h1 := Lib.hid (h1.cast hz0.out.symm)
  clear u0 u1 u2 u3 u4 u5 u6 u7 u8 lU
  clear h0
  have u0 : W1.cell? ⟨w.heap.size, 0, none⟩ = some (.int .i64 m.k) := blkC h1.out.blk 0
  have u1 : W1.cell? ⟨w.heap.size, 1, none⟩ = some (.int .i64 m.fr) := blkC h1.out.blk 1
  have u2 : W1.cell? ⟨w.heap.size, 2, none⟩ = some (.int .i64 m.tt) := blkC h1.out.blk 2
  have u3 : W1.cell? ⟨w.heap.size, 3, none⟩ = some (.int .i64 m.ro) := blkC h1.out.blk 3
  have u4 : W1.cell? ⟨w.heap.size, 4, none⟩ = some (.int .i64 m.no) := blkC h1.out.blk 4
  have u5 : W1.cell? ⟨w.heap.size, 5, none⟩ = some (.int .i64 m.sl) := blkC h1.out.blk 5
  have u6 : W1.cell? ⟨w.heap.size, 6, none⟩ = some (.int .i64 m.nu) := blkC h1.out.blk 6
  have u7 : W1.cell? ⟨w.heap.size, 7, none⟩ = some (.string (sOf m.v)) := blkC h1.out.blk 7
  have u8 : W1.cell? ⟨w.heap.size, 8, none⟩ = some (.slice A n c) := blkC h1.out.blk 8
  have lU := blkX h1.out.blk
  go_wp2_with (fail)
  refine (RWB.uint h1.out _ m.fr.toNat (by first | rfl | (simp [IntKind.wrap, IntKind.signed, IntKind.bits]; omega)) (by omega) (by omega)).mono ?_
  rintro e W2 ⟨rfl, h2⟩
  replace h2 := Lib.hid (h2.cast hz1.out.symm)
  clear u0 u1 u2 u3 u4 u5 u6 u7 u8 lU
  clear h1
  have u0 : W2.cell? ⟨w.heap.size, 0, none⟩ = some (.int .i64 m.k) := blkC h2.out.blk 0
  have u1 : W2.cell? ⟨w.heap.size, 1, none⟩ = some (.int .i64 m.fr) := blkC h2.out.blk 1
  have u2 : W2.cell? ⟨w.heap.size, 2, none⟩ = some (.int .i64 m.tt) := blkC h2.out.blk 2
  have u3 : W2.cell? ⟨w.heap.size, 3, none⟩ = some (.int .i64 m.ro) := blkC h2.out.blk 3
  have u4 : W2.cell? ⟨w.heap.size, 4, none⟩ = some (.int .i64 m.no) := blkC h2.out.blk 4
  have u5 : W2.cell? ⟨w.heap.size, 5, none⟩ = some (.int .i64 m.sl) := blkC h2.out.blk 5
  have u6 : W2.cell? ⟨w.heap.size, 6, none⟩ = some (.int .i64 m.nu) := blkC h2.out.blk 6
  have u7 : W2.cell? ⟨w.heap.size, 7, none⟩ = some (.string (sOf m.v)) := blkC h2.out.blk 7
  have u8 : W2.cell? ⟨w.heap.size, 8, none⟩ = some (.slice A n c) := blkC h2.out.blk 8
  have lU := blkX h2.out.blk
  go_wp2_with (fail)
  refine (RWB.uint h2.out _ m.tt.toNat (by first | rfl | (simp [IntKind.wrap, IntKind.signed, IntKind.bits]; omega)) (by omega) (by omega)).mono ?_
  rintro e W3 ⟨rfl, h3⟩
  replace h3 := Lib.hid (h3.cast hz2.out.symm)
  clear u0 u1 u2 u3 u4 u5 u6 u7 u8 lU
  clear h2
  have u0 : W3.cell? ⟨w.heap.size, 0, none⟩ = some (.int .i64 m.k) := blkC h3.out.blk 0
  have u1 : W3.cell? ⟨w.heap.size, 1, none⟩ = some (.int .i64 m.fr) := blkC h3.out.blk 1
  have u2 : W3.cell? ⟨w.heap.size, 2, none⟩ = some (.int .i64 m.tt) := blkC h3.out.blk 2
  have u3 : W3.cell? ⟨w.heap.size, 3, none⟩ = some (.int .i64 m.ro) := blkC h3.out.blk 3
  have u4 : W3.cell? ⟨w.heap.size, 4, none⟩ = some (.int .i64 m.no) := blkC h3.out.blk 4
  have u5 : W3.cell? ⟨w.heap.size, 5, none⟩ = some (.int .i64 m.sl) := blkC h3.out.blk 5
  have u6 : W3.cell? ⟨w.heap.size, 6, none⟩ = some (.int .i64 m.nu) := blkC h3.out.blk 6
  have u7 : W3.cell? ⟨w.heap.size, 7, none⟩ = some (.string (sOf m.v)) := blkC h3.out.blk 7
  have u8 : W3.cell? ⟨w.heap.size, 8, none⟩ = some (.slice A n c) := blkC h3.out.blk 8
  have lU := blkX h3.out.blk
  go_wp2_with (fail)
  refine (RWB.uint h3.out _ m.ro.toNat (by first | rfl | (simp [IntKind.wrap, IntKind.signed, IntKind.bits]; omega)) (by omega) (by omega)).mono ?_
  rintro e W4 ⟨rfl, h4⟩
  replace h4 := Lib.hid (h4.cast hz3.out.symm)
  clear u0 u1 u2 u3 u4 u5 u6 u7 u8 lU
  clear h3
  have u0 : W4.cell? ⟨w.heap.size, 0, none⟩ = some (.int .i64 m.k) := blkC h4.out.blk 0
  have u1 : W4.cell? ⟨w.heap.size, 1, none⟩ = some (.int .i64 m.fr) := blkC h4.out.blk 1
  have u2 : W4.cell? ⟨w.heap.size, 2, none⟩ = some (.int .i64 m.tt) := blkC h4.out.blk 2
  have u3 : W4.cell? ⟨w.heap.size, 3, none⟩ = some (.int .i64 m.ro) := blkC h4.out.blk 3
  have u4 : W4.cell? ⟨w.heap.size, 4, none⟩ = some (.int .i64 m.no) := blkC h4.out.blk 4
  have u5 : W4.cell? ⟨w.heap.size, 5, none⟩ = some (.int .i64 m.sl) := blkC h4.out.blk 5
  have u6 : W4.cell? ⟨w.heap.size, 6, none⟩ = some (.int .i64 m.nu) := blkC h4.out.blk 6
  have u7 : W4.cell? ⟨w.heap.size, 7, none⟩ = some (.string (sOf m.v)) := blkC h4.out.blk 7
  have u8 : W4.cell? ⟨w.heap.size, 8, none⟩ = some (.slice A n c) := blkC h4.out.blk 8
  have lU := blkX h4.out.blk
  go_wp2_with (fail)
  refine (RWB.uint h4.out _ m.no.toNat (by first | rfl | (simp [IntKind.wrap, IntKind.signed, IntKind.bits]; omega)) (by omega) (by omega)).mono ?_
  rintro e W5 ⟨rfl, h5⟩
  replace h5 := Lib.hid (h5.cast hz4.out.symm)
  clear u0 u1 u2 u3 u4 u5 u6 u7 u8 lU
  clear h4
  have u0 : W5.cell? ⟨w.heap.size, 0, none⟩ = some (.int .i64 m.k) := blkC h5.out.blk 0
  have u1 : W5.cell? ⟨w.heap.size, 1, none⟩ = some (.int .i64 m.fr) := blkC h5.out.blk 1
  have u2 : W5.cell? ⟨w.heap.size, 2, none⟩ = some (.int .i64 m.tt) := blkC h5.out.blk 2
  have u3 : W5.cell? ⟨w.heap.size, 3, none⟩ = some (.int .i64 m.ro) := blkC h5.out.blk 3
  have u4 : W5.cell? ⟨w.heap.size, 4, none⟩ = some (.int .i64 m.no) := blkC h5.out.blk 4
  have u5 : W5.cell? ⟨w.heap.size, 5, none⟩ = some (.int .i64 m.sl) := blkC h5.out.blk 5
  have u6 : W5.cell? ⟨w.heap.size, 6, none⟩ = some (.int .i64 m.nu) := blkC h5.out.blk 6
  have u7 : W5.cell? ⟨w.heap.size, 7, none⟩ = some (.string (sOf m.v)) := blkC h5.out.blk 7
  have u8 : W5.cell? ⟨w.heap.size, 8, none⟩ = some (.slice A n c) := blkC h5.out.blk 8
  have lU := blkX h5.out.blk
  go_wp2_with (fail)
  refine (RWB.uint h5.out _ m.sl.toNat (by first | rfl | (simp [IntKind.wrap, IntKind.signed, IntKind.bits]; omega)) (by omega) (by omega)).mono ?_
  rintro e W6 ⟨rfl, h6⟩
  replace h6 := Lib.hid (h6.cast hz5.out.symm)
  clear u0 u1 u2 u3 u4 u5 u6 u7 u8 lU
  clear h5
  have u0 : W6.cell? ⟨w.heap.size, 0, none⟩ = some (.int .i64 m.k) := blkC h6.out.blk 0
  have u1 : W6.cell? ⟨w.heap.size, 1, none⟩ = some (.int .i64 m.fr) := blkC h6.out.blk 1
  have u2 : W6.cell? ⟨w.heap.size, 2, none⟩ = some (.int .i64 m.tt) := blkC h6.out.blk 2
  have u3 : W6.cell? ⟨w.heap.size, 3, none⟩ = some (.int .i64 m.ro) := blkC h6.out.blk 3
  have u4 : W6.cell? ⟨w.heap.size, 4, none⟩ = some (.int .i64 m.no) := blkC h6.out.blk 4
  have u5 : W6.cell? ⟨w.heap.size, 5, none⟩ = some (.int .i64 m.sl) := blkC h6.out.blk 5
  have u6 : W6.cell? ⟨w.heap.size, 6, none⟩ = some (.int .i64 m.nu) := blkC h6.out.blk 6
  have u7 : W6.cell? ⟨w.heap.size, 7, none⟩ = some (.string (sOf m.v)) := blkC h6.out.blk 7
  have u8 : W6.cell? ⟨w.heap.size, 8, none⟩ = some (.slice A n c) := blkC h6.out.blk 8
  have lU := blkX h6.out.blk
  go_wp2_with (fail)
  go_loopw [9] (fun i wr => ∃ k : Nat, k ≤ n ∧ i = .int .i64 k ∧ RW w (w.heap.size + 1) [(w.heap.size, #[.int .i64 m.k, .int .i64 m.fr, .int .i64 m.tt, .int .i64 m.ro, .int .i64 m.no, .int .i64 m.sl, .int .i64 m.nu, .string (sOf m.v), .slice A n c], 28)] (z5 ++ bEnts (m.l.take k)) wr) (fun i _ => n - (intOf i).toNat)
  case atStart => exact ⟨0, by omega, rfl, h6.out.cast (by simp [bEnts])⟩
  case round =>
    revert wr
    intro Y hrel
    obtain ⟨k, hk, rfl, h3⟩ := hrel
    clear u0 u1 u2 u3 u4 u5 u6 u7 u8 lU h6
    have z8 : Y.cell? ⟨w.heap.size, 8, none⟩ = some (.slice A n c) := blkC h3.blk 8
    have lU := blkX h3.blk
    by_cases hlt : k < n
    · obtain ⟨b, o, x, rfl, hbl, hx, c0, c1, c2, c3⟩ := ES.at_ hE.out hlt
      obtain ⟨g1, g2, g3, g4⟩ := hf.out.l x (List.mem_of_getElem? hx)
      have hsn := bEnts_snoc hx
      have hlen := bEnts_len (l := m.l.take k) fun y hy => hf.out.l y (List.mem_of_mem_take hy)
      rw [List.length_take] at hlen
      have i0 := enc_len (n := x.sl.toNat) (by omega)
      have i1 := enc_len (n := x.ro.toNat) (by omega)
      have i2 := enc_len (n := x.no.toNat) (by omega)
      have i3 := enc_len (n := x.v.length) (by omega)
      have k0 : (0 : Int) ≤ k := by omega
      have k1 : (k : Int) < (n : Int) := by omega
      obtain ⟨y0, hy0⟩ : ∃ y, y = z5 ++ bEnts (m.l.take k) := ⟨_, rfl⟩
      have M0 : y0.length ≤ 800000000 := by rw [hy0]; simp only [List.length_append]; omega
      rw [← hy0] at h3
      obtain ⟨y1, hy1⟩ : ∃ y, y = y0 ++ enc x.sl.toNat := ⟨_, rfl⟩
      have M1 : y1.length ≤ 800070000 := by rw [hy1]; simp only [List.length_append]; omega
      obtain ⟨y2, hy2⟩ : ∃ y, y = y1 ++ enc x.ro.toNat := ⟨_, rfl⟩
      have M2 : y2.length ≤ 800140000 := by rw [hy2]; simp only [List.length_append]; omega
      obtain ⟨y3, hy3⟩ : ∃ y, y = y2 ++ enc x.no.toNat := ⟨_, rfl⟩
      have M3 : y3.length ≤ 800210000 := by rw [hy3]; simp only [List.length_append]; omega
      obtain ⟨y4, hy4⟩ : ∃ y, y = y3 ++ (enc x.v.length ++ x.v) := ⟨_, rfl⟩
      have M4 : y4.length ≤ 800280000 := by rw [hy4]; simp only [List.length_append]; omega
      have hout : y4 = z5 ++ bEnts (m.l.take (k + 1)) := by rw [hsn, hy4, hy3, hy2, hy1, hy0]; simp only [bEnt, List.append_assoc]
      replace hout := Lib.hid hout; replace hy0 := Lib.hid hy0; replace hy1 := Lib.hid hy1; replace hy2 := Lib.hid hy2; replace hy3 := Lib.hid hy3; replace hy4 := Lib.hid hy4; replace hsn := Lib.hid hsn; replace hlen := Lib.hid hlen; replace c0 := Lib.hid c0; replace c1 := Lib.hid c1; replace c2 := Lib.hid c2; replace c3 := Lib.hid c3
      clear hx
      replace h3 := Lib.hid h3
      have s0 := (h3.out.bel.cell (p := ⟨b, o + k * 4, none⟩) hbl).trans c0.out
      have s1 := (h3.out.bel.cell (p := ⟨b, o + k * 4 + 1, none⟩) hbl).trans c1.out
      have s2 := (h3.out.bel.cell (p := ⟨b, o + k * 4 + 2, none⟩) hbl).trans c2.out
      have s3 := (h3.out.bel.cell (p := ⟨b, o + k * 4 + 3, none⟩) hbl).trans c3.out
      go_wp2_with (fail)
      refine (RWB.uint h3.out _ x.sl.toNat (by first | rfl | (simp [IntKind.wrap, IntKind.signed, IntKind.bits]; omega)) (by omega) (by omega)).mono ?_
      rintro e Y1 ⟨rfl, h40⟩
      replace h40 := Lib.hid (h40.cast hy1.out.symm)
      clear s0 s1 s2 s3 z8 lU h3
      have z8 : Y1.cell? ⟨w.heap.size, 8, none⟩ = some (.slice (some ⟨b, o, none⟩) n c) := blkC h40.out.blk 8
      have lU := blkX h40.out.blk
      have s0 := (h40.out.bel.cell (p := ⟨b, o + k * 4, none⟩) hbl).trans c0.out
      have s1 := (h40.out.bel.cell (p := ⟨b, o + k * 4 + 1, none⟩) hbl).trans c1.out
      have s2 := (h40.out.bel.cell (p := ⟨b, o + k * 4 + 2, none⟩) hbl).trans c2.out
      have s3 := (h40.out.bel.cell (p := ⟨b, o + k * 4 + 3, none⟩) hbl).trans c3.out
      go_wp2_with (fail)
      refine (RWB.uint h40.out _ x.ro.toNat (by first | rfl | (simp [IntKind.wrap, IntKind.signed, IntKind.bits]; omega)) (by omega) (by omega)).mono ?_
      rintro e Y2 ⟨rfl, h41⟩
      replace h41 := Lib.hid (h41.cast hy2.out.symm)
      clear s0 s1 s2 s3 z8 lU h40
      have z8 : Y2.cell? ⟨w.heap.size, 8, none⟩ = some (.slice (some ⟨b, o, none⟩) n c) := blkC h41.out.blk 8
      have lU := blkX h41.out.blk
      have s0 := (h41.out.bel.cell (p := ⟨b, o + k * 4, none⟩) hbl).trans c0.out
      have s1 := (h41.out.bel.cell (p := ⟨b, o + k * 4 + 1, none⟩) hbl).trans c1.out
      have s2 := (h41.out.bel.cell (p := ⟨b, o + k * 4 + 2, none⟩) hbl).trans c2.out
      have s3 := (h41.out.bel.cell (p := ⟨b, o + k * 4 + 3, none⟩) hbl).trans c3.out
      go_wp2_with (fail)
      refine (RWB.uint h41.out _ x.no.toNat (by first | rfl | (simp [IntKind.wrap, IntKind.signed, IntKind.bits]; omega)) (by omega) (by omega)).mono ?_
      rintro e Y3 ⟨rfl, h42⟩
      replace h42 := Lib.hid (h42.cast hy3.out.symm)
      clear s0 s1 s2 s3 z8 lU h41
      have z8 : Y3.cell? ⟨w.heap.size, 8, none⟩ = some (.slice (some ⟨b, o, none⟩) n c) := blkC h42.out.blk 8
      have lU := blkX h42.out.blk
      have s0 := (h42.out.bel.cell (p := ⟨b, o + k * 4, none⟩) hbl).trans c0.out
      have s1 := (h42.out.bel.cell (p := ⟨b, o + k * 4 + 1, none⟩) hbl).trans c1.out
      have s2 := (h42.out.bel.cell (p := ⟨b, o + k * 4 + 2, none⟩) hbl).trans c2.out
      have s3 := (h42.out.bel.cell (p := ⟨b, o + k * 4 + 3, none⟩) hbl).trans c3.out
      go_wp2_with (fail)
      refine (RWB.text h42.out x.v (by omega) (by omega)).mono ?_
      rintro e Y4 ⟨rfl, h43⟩
      replace h43 := Lib.hid (h43.cast hy4.out.symm)
      clear s0 s1 s2 s3 z8 lU h42
      go_wp2_with (fail)
      exact ⟨⟨k + 1, by omega, by go_num, h43.out.cast hout.out⟩, by simp [intOf]; omega⟩
    · obtain rfl : k = n := by omega
      have hft : m.l.take k = m.l := by rw [hN.out, List.take_length]
      rw [hft, ← hfin.out] at h3
      have hk1 : ¬ (k : Int) < (k : Int) := by omega
      have Lf : (bytesM m).length ≤ 800000000 := by rw [hfin.out, List.length_append]; have := bEnts_len (l := m.l) hf.out.l; have := hN.out; omega
      obtain ⟨A1, c1, hi, -⟩ := h3.ex
      have hby := rBytes_any (w.heap.size + 1) A1 c1 (bytesM m) Y hi (by omega) (by omega)
      have bel := Lib.hid h3.bel
      replace hby := Lib.hid hby
      clear hi
      replace h3 := Lib.hid h3
      go_wp2_with (fail)
      refine hby.out.mono ?_
      rintro e w7 ⟨A7, c7, rfl, o7, b7⟩
      have hfn : IsBytes w A7 c7 (bytesM m) w7 := ⟨o7.mono bel.out.size, bel.out.trans (b7.mono bel.out.size)⟩
      replace hfn := Lib.hid hfn
      clear o7 b7
      go_wp2_with (fail)
      go_ret
      exact ⟨A7, c7, rfl, hfn.out⟩
set_option maxHeartbeats 32000000 in
theorem rwrite_TFFFF (m : Mg) (A : Option Addr) (c : Nat) (w : World) (hf : FitM m) (hE : ES w A m.l.length m.l) (hb : uB m.k = true) (hs : uS m.k = false) (hn : uN m.k = false) (hv : uV m.k = false) (hl : uL m.k = false) (hnil : m.l = []) :
    Calls Tryz.prog 47 #[.agg #[.int .i64 m.k, .int .i64 m.fr, .int .i64 m.tt, .int .i64 m.ro, .int .i64 m.no, .int .i64 m.sl, .int .i64 m.nu, .string (sOf m.v), .slice A m.l.length c]] w fun e w' => ∃ A' c', e = .returned (.slice A' (bytesM m).length c') ∧ IsBytes w A' c' (bytesM m) w' := by
  have hd := hf.hd
  simp only [headOK, decide_eq_true_eq] at hd
  obtain ⟨d1, d2, d3, d4, d5, d6, d7⟩ := hd
  obtain ⟨⟨f0, f1⟩, ⟨f2, f3⟩⟩ := hf.b; obtain ⟨f4, f5⟩ := hf.s; obtain ⟨f6, f7⟩ := hf.n; have f8 := hf.v; have f9 := hf.ln
  have ek := enc_len (n := m.k.toNat) (by omega)
  have efr := enc_len (n := m.fr.toNat) (by omega)
  have ett := enc_len (n := m.tt.toNat) (by omega)
  have ero := enc_len (n := m.ro.toNat) (by omega)
  have eno := enc_len (n := m.no.toNat) (by omega)
  have esl := enc_len (n := m.sl.toNat) (by omega)
  have enu := enc_len (n := m.nu.toNat) (by omega)
  have ev := enc_len (n := m.v.length) (by omega)
  have en := enc_len (n := m.l.length) (by omega)
  obtain ⟨n, hN⟩ : ∃ n, n = m.l.length := ⟨_, rfl⟩
  rw [← hN] at hE en f9 ⊢
  obtain ⟨z0, hz0⟩ : ∃ z, z = ([] : List UInt8) ++ enc m.k.toNat := ⟨_, rfl⟩
  have L0 : z0.length ≤ 10 := by rw [hz0]; simpa using ek
  obtain ⟨z1, hz1⟩ : ∃ z, z = z0 ++ enc m.fr.toNat := ⟨_, rfl⟩
  have L1 : z1.length ≤ 20 := by rw [hz1]; simp only [List.length_append]; omega
  obtain ⟨z2, hz2⟩ : ∃ z, z = z1 ++ enc m.tt.toNat := ⟨_, rfl⟩
  have L2 : z2.length ≤ 30 := by rw [hz2]; simp only [List.length_append]; omega
  obtain ⟨z3, hz3⟩ : ∃ z, z = z2 ++ enc m.ro.toNat := ⟨_, rfl⟩
  have L3 : z3.length ≤ 40 := by rw [hz3]; simp only [List.length_append]; omega
  obtain ⟨z4, hz4⟩ : ∃ z, z = z3 ++ enc m.no.toNat := ⟨_, rfl⟩
  have L4 : z4.length ≤ 50 := by rw [hz4]; simp only [List.length_append]; omega
  have hfin : bytesM m = z4 ++ bEnts m.l := by
    have q1 : bB m = enc m.ro.toNat ++ enc m.no.toNat := by unfold bB; rw [hb]; rfl
    have q2 : bS m = [] := by unfold bS; rw [hs]; rfl
    have q3 : bN m = [] := by unfold bN; rw [hn]; rfl
    have q4 : bV m = [] := by unfold bV; rw [hv]; rfl
    have q5 : bL m = bEnts m.l := by unfold bL; rw [hl]; rw [hnil]; rfl
    unfold bytesM bHead
    rw [q1, q2, q3, q4, q5, hz4, hz3, hz2, hz1, hz0]
    simp only [List.append_assoc, List.nil_append, List.append_nil]
  replace hz0 := Lib.hid hz0
  replace hz1 := Lib.hid hz1
  replace hz2 := Lib.hid hz2
  replace hz3 := Lib.hid hz3
  replace hz4 := Lib.hid hz4
  have us := fun W => uses_any m.k ⟨d1, d2⟩ W
  simp only [hb, hs, hn, hv, hl] at us
  replace us := Lib.hid us
  have h0 : RW w (w.heap.size + 1) [(w.heap.size, #[.int .i64 m.k, .int .i64 m.fr, .int .i64 m.tt, .int .i64 m.ro, .int .i64 m.no, .int .i64 m.sl, .int .i64 m.nu, .string (sOf m.v), .slice A n c], 28)] [] ((w.alloc (.cells #[.int .i64 m.k, .int .i64 m.fr, .int .i64 m.tt, .int .i64 m.ro, .int .i64 m.no, .int .i64 m.sl, .int .i64 m.nu, .string (sOf m.v), .slice A n c] 28)).alloc (.cells #[.bool true, .slice none 0 0] 133)) := by
    have b2 : Below w.heap.size w (w.alloc (.cells #[.int .i64 m.k, .int .i64 m.fr, .int .i64 m.tt, .int .i64 m.ro, .int .i64 m.no, .int .i64 m.sl, .int .i64 m.nu, .string (sOf m.v), .slice A n c] 28)) := (Below.refl _ w).alloc (Nat.le_refl _) _
    refine ⟨by omega, b2.alloc (by simp) _, ⟨none, 0, ⟨hpNewAt _ (by simp), World.ownsRow_nil _ _ _ _⟩, fun k hk => by cases hk⟩, fun x hx => ?_⟩
    simp only [List.mem_cons, List.not_mem_nil, or_false] at hx
    subst hx
    exact ⟨(hpOld _ (by simp)).trans (hpNew _ _), (show 28 ≠ 5 from by decide), by simp⟩
  replace h0 := Lib.hid h0; replace hE := Lib.hid hE; replace hfin := Lib.hid hfin; replace hN := Lib.hid hN; replace hf := Lib.hid hf; replace hnil := Lib.hid hnil
  replace hb := Lib.hid hb; replace hs := Lib.hid hs; replace hn := Lib.hid hn; replace hv := Lib.hid hv; replace hl := Lib.hid hl
  clear ek efr ett ero eno esl enu ev en
  go_enter Tryz.func47, Tryz.ntmps47
  go_wp2_with (fail)
  refine (rNew_any _).mono ?_
  rintro e w3 ⟨rfl, rfl⟩
  obtain ⟨W0, hW0⟩ : ∃ W, W = ((w.alloc (.cells #[.int .i64 m.k, .int .i64 m.fr, .int .i64 m.tt, .int .i64 m.ro, .int .i64 m.no, .int .i64 m.sl, .int .i64 m.nu, .string (sOf m.v), .slice A n c] 28)).alloc (.cells #[.bool true, .slice none 0 0] 133)) := ⟨_, rfl⟩
  rw [← hW0] at h0
  skip
  have u0 : W0.cell? ⟨w.heap.size, 0, none⟩ = some (.int .i64 m.k) := blkC h0.out.blk 0
  have u1 : W0.cell? ⟨w.heap.size, 1, none⟩ = some (.int .i64 m.fr) := blkC h0.out.blk 1
  have u2 : W0.cell? ⟨w.heap.size, 2, none⟩ = some (.int .i64 m.tt) := blkC h0.out.blk 2
  have u3 : W0.cell? ⟨w.heap.size, 3, none⟩ = some (.int .i64 m.ro) := blkC h0.out.blk 3
  have u4 : W0.cell? ⟨w.heap.size, 4, none⟩ = some (.int .i64 m.no) := blkC h0.out.blk 4
  have u5 : W0.cell? ⟨w.heap.size, 5, none⟩ = some (.int .i64 m.sl) := blkC h0.out.blk 5
  have u6 : W0.cell? ⟨w.heap.size, 6, none⟩ = some (.int .i64 m.nu) := blkC h0.out.blk 6
  have u7 : W0.cell? ⟨w.heap.size, 7, none⟩ = some (.string (sOf m.v)) := blkC h0.out.blk 7
  have u8 : W0.cell? ⟨w.heap.size, 8, none⟩ = some (.slice A n c) := blkC h0.out.blk 8
  have lU := blkX h0.out.blk
  rw [← hW0]
  clear hW0
  go_wp2_with (fail)
  refine (us.out _).mono ?_
  rintro e w4 ⟨rfl, rfl⟩
  clear us
  go_wp2_with (fail)
  refine (RWB.uint h0.out _ m.k.toNat (by first | rfl | (simp [IntKind.wrap, IntKind.signed, IntKind.bits]; omega)) (by omega) (by simp)).mono ?_
  rintro e W1 ⟨rfl, h1⟩
  replace h1 := Lib.hid (h1.cast hz0.out.symm)
  clear u0 u1 u2 u3 u4 u5 u6 u7 u8 lU
  clear h0
  have u0 : W1.cell? ⟨w.heap.size, 0, none⟩ = some (.int .i64 m.k) := blkC h1.out.blk 0
  have u1 : W1.cell? ⟨w.heap.size, 1, none⟩ = some (.int .i64 m.fr) := blkC h1.out.blk 1
  have u2 : W1.cell? ⟨w.heap.size, 2, none⟩ = some (.int .i64 m.tt) := blkC h1.out.blk 2
  have u3 : W1.cell? ⟨w.heap.size, 3, none⟩ = some (.int .i64 m.ro) := blkC h1.out.blk 3
  have u4 : W1.cell? ⟨w.heap.size, 4, none⟩ = some (.int .i64 m.no) := blkC h1.out.blk 4
  have u5 : W1.cell? ⟨w.heap.size, 5, none⟩ = some (.int .i64 m.sl) := blkC h1.out.blk 5
  have u6 : W1.cell? ⟨w.heap.size, 6, none⟩ = some (.int .i64 m.nu) := blkC h1.out.blk 6
  have u7 : W1.cell? ⟨w.heap.size, 7, none⟩ = some (.string (sOf m.v)) := blkC h1.out.blk 7
  have u8 : W1.cell? ⟨w.heap.size, 8, none⟩ = some (.slice A n c) := blkC h1.out.blk 8
  have lU := blkX h1.out.blk
  go_wp2_with (fail)
  refine (RWB.uint h1.out _ m.fr.toNat (by first | rfl | (simp [IntKind.wrap, IntKind.signed, IntKind.bits]; omega)) (by omega) (by omega)).mono ?_
  rintro e W2 ⟨rfl, h2⟩
  replace h2 := Lib.hid (h2.cast hz1.out.symm)
  clear u0 u1 u2 u3 u4 u5 u6 u7 u8 lU
  clear h1
  have u0 : W2.cell? ⟨w.heap.size, 0, none⟩ = some (.int .i64 m.k) := blkC h2.out.blk 0
  have u1 : W2.cell? ⟨w.heap.size, 1, none⟩ = some (.int .i64 m.fr) := blkC h2.out.blk 1
  have u2 : W2.cell? ⟨w.heap.size, 2, none⟩ = some (.int .i64 m.tt) := blkC h2.out.blk 2
  have u3 : W2.cell? ⟨w.heap.size, 3, none⟩ = some (.int .i64 m.ro) := blkC h2.out.blk 3
  have u4 : W2.cell? ⟨w.heap.size, 4, none⟩ = some (.int .i64 m.no) := blkC h2.out.blk 4
  have u5 : W2.cell? ⟨w.heap.size, 5, none⟩ = some (.int .i64 m.sl) := blkC h2.out.blk 5
  have u6 : W2.cell? ⟨w.heap.size, 6, none⟩ = some (.int .i64 m.nu) := blkC h2.out.blk 6
  have u7 : W2.cell? ⟨w.heap.size, 7, none⟩ = some (.string (sOf m.v)) := blkC h2.out.blk 7
  have u8 : W2.cell? ⟨w.heap.size, 8, none⟩ = some (.slice A n c) := blkC h2.out.blk 8
  have lU := blkX h2.out.blk
  go_wp2_with (fail)
  refine (RWB.uint h2.out _ m.tt.toNat (by first | rfl | (simp [IntKind.wrap, IntKind.signed, IntKind.bits]; omega)) (by omega) (by omega)).mono ?_
  rintro e W3 ⟨rfl, h3⟩
  replace h3 := Lib.hid (h3.cast hz2.out.symm)
  clear u0 u1 u2 u3 u4 u5 u6 u7 u8 lU
  clear h2
  have u0 : W3.cell? ⟨w.heap.size, 0, none⟩ = some (.int .i64 m.k) := blkC h3.out.blk 0
  have u1 : W3.cell? ⟨w.heap.size, 1, none⟩ = some (.int .i64 m.fr) := blkC h3.out.blk 1
  have u2 : W3.cell? ⟨w.heap.size, 2, none⟩ = some (.int .i64 m.tt) := blkC h3.out.blk 2
  have u3 : W3.cell? ⟨w.heap.size, 3, none⟩ = some (.int .i64 m.ro) := blkC h3.out.blk 3
  have u4 : W3.cell? ⟨w.heap.size, 4, none⟩ = some (.int .i64 m.no) := blkC h3.out.blk 4
  have u5 : W3.cell? ⟨w.heap.size, 5, none⟩ = some (.int .i64 m.sl) := blkC h3.out.blk 5
  have u6 : W3.cell? ⟨w.heap.size, 6, none⟩ = some (.int .i64 m.nu) := blkC h3.out.blk 6
  have u7 : W3.cell? ⟨w.heap.size, 7, none⟩ = some (.string (sOf m.v)) := blkC h3.out.blk 7
  have u8 : W3.cell? ⟨w.heap.size, 8, none⟩ = some (.slice A n c) := blkC h3.out.blk 8
  have lU := blkX h3.out.blk
  go_wp2_with (fail)
  refine (RWB.uint h3.out _ m.ro.toNat (by first | rfl | (simp [IntKind.wrap, IntKind.signed, IntKind.bits]; omega)) (by omega) (by omega)).mono ?_
  rintro e W4 ⟨rfl, h4⟩
  replace h4 := Lib.hid (h4.cast hz3.out.symm)
  clear u0 u1 u2 u3 u4 u5 u6 u7 u8 lU
  clear h3
  have u0 : W4.cell? ⟨w.heap.size, 0, none⟩ = some (.int .i64 m.k) := blkC h4.out.blk 0
  have u1 : W4.cell? ⟨w.heap.size, 1, none⟩ = some (.int .i64 m.fr) := blkC h4.out.blk 1
  have u2 : W4.cell? ⟨w.heap.size, 2, none⟩ = some (.int .i64 m.tt) := blkC h4.out.blk 2
  have u3 : W4.cell? ⟨w.heap.size, 3, none⟩ = some (.int .i64 m.ro) := blkC h4.out.blk 3
  have u4 : W4.cell? ⟨w.heap.size, 4, none⟩ = some (.int .i64 m.no) := blkC h4.out.blk 4
  have u5 : W4.cell? ⟨w.heap.size, 5, none⟩ = some (.int .i64 m.sl) := blkC h4.out.blk 5
  have u6 : W4.cell? ⟨w.heap.size, 6, none⟩ = some (.int .i64 m.nu) := blkC h4.out.blk 6
  have u7 : W4.cell? ⟨w.heap.size, 7, none⟩ = some (.string (sOf m.v)) := blkC h4.out.blk 7
  have u8 : W4.cell? ⟨w.heap.size, 8, none⟩ = some (.slice A n c) := blkC h4.out.blk 8
  have lU := blkX h4.out.blk
  go_wp2_with (fail)
  refine (RWB.uint h4.out _ m.no.toNat (by first | rfl | (simp [IntKind.wrap, IntKind.signed, IntKind.bits]; omega)) (by omega) (by omega)).mono ?_
  rintro e W5 ⟨rfl, h5⟩
  replace h5 := Lib.hid (h5.cast hz4.out.symm)
  clear u0 u1 u2 u3 u4 u5 u6 u7 u8 lU
  clear h4
  have u0 : W5.cell? ⟨w.heap.size, 0, none⟩ = some (.int .i64 m.k) := blkC h5.out.blk 0
  have u1 : W5.cell? ⟨w.heap.size, 1, none⟩ = some (.int .i64 m.fr) := blkC h5.out.blk 1
  have u2 : W5.cell? ⟨w.heap.size, 2, none⟩ = some (.int .i64 m.tt) := blkC h5.out.blk 2
  have u3 : W5.cell? ⟨w.heap.size, 3, none⟩ = some (.int .i64 m.ro) := blkC h5.out.blk 3
  have u4 : W5.cell? ⟨w.heap.size, 4, none⟩ = some (.int .i64 m.no) := blkC h5.out.blk 4
  have u5 : W5.cell? ⟨w.heap.size, 5, none⟩ = some (.int .i64 m.sl) := blkC h5.out.blk 5
  have u6 : W5.cell? ⟨w.heap.size, 6, none⟩ = some (.int .i64 m.nu) := blkC h5.out.blk 6
  have u7 : W5.cell? ⟨w.heap.size, 7, none⟩ = some (.string (sOf m.v)) := blkC h5.out.blk 7
  have u8 : W5.cell? ⟨w.heap.size, 8, none⟩ = some (.slice A n c) := blkC h5.out.blk 8
  have lU := blkX h5.out.blk
  go_wp2_with (fail)
  go_loopw [9] (fun i wr => ∃ k : Nat, k ≤ n ∧ i = .int .i64 k ∧ RW w (w.heap.size + 1) [(w.heap.size, #[.int .i64 m.k, .int .i64 m.fr, .int .i64 m.tt, .int .i64 m.ro, .int .i64 m.no, .int .i64 m.sl, .int .i64 m.nu, .string (sOf m.v), .slice A n c], 28)] (z4 ++ bEnts (m.l.take k)) wr) (fun i _ => n - (intOf i).toNat)
  case atStart => exact ⟨0, by omega, rfl, h5.out.cast (by simp [bEnts])⟩
  case round =>
    revert wr
    intro Y hrel
    obtain ⟨k, hk, rfl, h3⟩ := hrel
    clear u0 u1 u2 u3 u4 u5 u6 u7 u8 lU h5
    have z8 : Y.cell? ⟨w.heap.size, 8, none⟩ = some (.slice A n c) := blkC h3.blk 8
    have lU := blkX h3.blk
    by_cases hlt : k < n
    · obtain ⟨b, o, x, rfl, hbl, hx, c0, c1, c2, c3⟩ := ES.at_ hE.out hlt
      obtain ⟨g1, g2, g3, g4⟩ := hf.out.l x (List.mem_of_getElem? hx)
      have hsn := bEnts_snoc hx
      have hlen := bEnts_len (l := m.l.take k) fun y hy => hf.out.l y (List.mem_of_mem_take hy)
      rw [List.length_take] at hlen
      have i0 := enc_len (n := x.sl.toNat) (by omega)
      have i1 := enc_len (n := x.ro.toNat) (by omega)
      have i2 := enc_len (n := x.no.toNat) (by omega)
      have i3 := enc_len (n := x.v.length) (by omega)
      have k0 : (0 : Int) ≤ k := by omega
      have k1 : (k : Int) < (n : Int) := by omega
      obtain ⟨y0, hy0⟩ : ∃ y, y = z4 ++ bEnts (m.l.take k) := ⟨_, rfl⟩
      have M0 : y0.length ≤ 800000000 := by rw [hy0]; simp only [List.length_append]; omega
      rw [← hy0] at h3
      obtain ⟨y1, hy1⟩ : ∃ y, y = y0 ++ enc x.sl.toNat := ⟨_, rfl⟩
      have M1 : y1.length ≤ 800070000 := by rw [hy1]; simp only [List.length_append]; omega
      obtain ⟨y2, hy2⟩ : ∃ y, y = y1 ++ enc x.ro.toNat := ⟨_, rfl⟩
      have M2 : y2.length ≤ 800140000 := by rw [hy2]; simp only [List.length_append]; omega
      obtain ⟨y3, hy3⟩ : ∃ y, y = y2 ++ enc x.no.toNat := ⟨_, rfl⟩
      have M3 : y3.length ≤ 800210000 := by rw [hy3]; simp only [List.length_append]; omega
      obtain ⟨y4, hy4⟩ : ∃ y, y = y3 ++ (enc x.v.length ++ x.v) := ⟨_, rfl⟩
      have M4 : y4.length ≤ 800280000 := by rw [hy4]; simp only [List.length_append]; omega
      have hout : y4 = z4 ++ bEnts (m.l.take (k + 1)) := by rw [hsn, hy4, hy3, hy2, hy1, hy0]; simp only [bEnt, List.append_assoc]
      replace hout := Lib.hid hout; replace hy0 := Lib.hid hy0; replace hy1 := Lib.hid hy1; replace hy2 := Lib.hid hy2; replace hy3 := Lib.hid hy3; replace hy4 := Lib.hid hy4; replace hsn := Lib.hid hsn; replace hlen := Lib.hid hlen; replace c0 := Lib.hid c0; replace c1 := Lib.hid c1; replace c2 := Lib.hid c2; replace c3 := Lib.hid c3
      clear hx
      replace h3 := Lib.hid h3
      have s0 := (h3.out.bel.cell (p := ⟨b, o + k * 4, none⟩) hbl).trans c0.out
      have s1 := (h3.out.bel.cell (p := ⟨b, o + k * 4 + 1, none⟩) hbl).trans c1.out
      have s2 := (h3.out.bel.cell (p := ⟨b, o + k * 4 + 2, none⟩) hbl).trans c2.out
      have s3 := (h3.out.bel.cell (p := ⟨b, o + k * 4 + 3, none⟩) hbl).trans c3.out
      go_wp2_with (fail)
      refine (RWB.uint h3.out _ x.sl.toNat (by first | rfl | (simp [IntKind.wrap, IntKind.signed, IntKind.bits]; omega)) (by omega) (by omega)).mono ?_
      rintro e Y1 ⟨rfl, h40⟩
      replace h40 := Lib.hid (h40.cast hy1.out.symm)
      clear s0 s1 s2 s3 z8 lU h3
      have z8 : Y1.cell? ⟨w.heap.size, 8, none⟩ = some (.slice (some ⟨b, o, none⟩) n c) := blkC h40.out.blk 8
      have lU := blkX h40.out.blk
      have s0 := (h40.out.bel.cell (p := ⟨b, o + k * 4, none⟩) hbl).trans c0.out
      have s1 := (h40.out.bel.cell (p := ⟨b, o + k * 4 + 1, none⟩) hbl).trans c1.out
      have s2 := (h40.out.bel.cell (p := ⟨b, o + k * 4 + 2, none⟩) hbl).trans c2.out
      have s3 := (h40.out.bel.cell (p := ⟨b, o + k * 4 + 3, none⟩) hbl).trans c3.out
      go_wp2_with (fail)
      refine (RWB.uint h40.out _ x.ro.toNat (by first | rfl | (simp [IntKind.wrap, IntKind.signed, IntKind.bits]; omega)) (by omega) (by omega)).mono ?_
      rintro e Y2 ⟨rfl, h41⟩
      replace h41 := Lib.hid (h41.cast hy2.out.symm)
      clear s0 s1 s2 s3 z8 lU h40
      have z8 : Y2.cell? ⟨w.heap.size, 8, none⟩ = some (.slice (some ⟨b, o, none⟩) n c) := blkC h41.out.blk 8
      have lU := blkX h41.out.blk
      have s0 := (h41.out.bel.cell (p := ⟨b, o + k * 4, none⟩) hbl).trans c0.out
      have s1 := (h41.out.bel.cell (p := ⟨b, o + k * 4 + 1, none⟩) hbl).trans c1.out
      have s2 := (h41.out.bel.cell (p := ⟨b, o + k * 4 + 2, none⟩) hbl).trans c2.out
      have s3 := (h41.out.bel.cell (p := ⟨b, o + k * 4 + 3, none⟩) hbl).trans c3.out
      go_wp2_with (fail)
      refine (RWB.uint h41.out _ x.no.toNat (by first | rfl | (simp [IntKind.wrap, IntKind.signed, IntKind.bits]; omega)) (by omega) (by omega)).mono ?_
      rintro e Y3 ⟨rfl, h42⟩
      replace h42 := Lib.hid (h42.cast hy3.out.symm)
      clear s0 s1 s2 s3 z8 lU h41
      have z8 : Y3.cell? ⟨w.heap.size, 8, none⟩ = some (.slice (some ⟨b, o, none⟩) n c) := blkC h42.out.blk 8
      have lU := blkX h42.out.blk
      have s0 := (h42.out.bel.cell (p := ⟨b, o + k * 4, none⟩) hbl).trans c0.out
      have s1 := (h42.out.bel.cell (p := ⟨b, o + k * 4 + 1, none⟩) hbl).trans c1.out
      have s2 := (h42.out.bel.cell (p := ⟨b, o + k * 4 + 2, none⟩) hbl).trans c2.out
      have s3 := (h42.out.bel.cell (p := ⟨b, o + k * 4 + 3, none⟩) hbl).trans c3.out
      go_wp2_with (fail)
      refine (RWB.text h42.out x.v (by omega) (by omega)).mono ?_
      rintro e Y4 ⟨rfl, h43⟩
      replace h43 := Lib.hid (h43.cast hy4.out.symm)
      clear s0 s1 s2 s3 z8 lU h42
      go_wp2_with (fail)
      exact ⟨⟨k + 1, by omega, by go_num, h43.out.cast hout.out⟩, by simp [intOf]; omega⟩
    · obtain rfl : k = n := by omega
      have hft : m.l.take k = m.l := by rw [hN.out, List.take_length]
      rw [hft, ← hfin.out] at h3
      have hk1 : ¬ (k : Int) < (k : Int) := by omega
      have Lf : (bytesM m).length ≤ 800000000 := by rw [hfin.out, List.length_append]; have := bEnts_len (l := m.l) hf.out.l; have := hN.out; omega
      obtain ⟨A1, c1, hi, -⟩ := h3.ex
      have hby := rBytes_any (w.heap.size + 1) A1 c1 (bytesM m) Y hi (by omega) (by omega)
      have bel := Lib.hid h3.bel
      replace hby := Lib.hid hby
      clear hi
      replace h3 := Lib.hid h3
      go_wp2_with (fail)
      refine hby.out.mono ?_
      rintro e w7 ⟨A7, c7, rfl, o7, b7⟩
      have hfn : IsBytes w A7 c7 (bytesM m) w7 := ⟨o7.mono bel.out.size, bel.out.trans (b7.mono bel.out.size)⟩
      replace hfn := Lib.hid hfn
      clear o7 b7
      go_wp2_with (fail)
      go_ret
      exact ⟨A7, c7, rfl, hfn.out⟩
set_option maxHeartbeats 32000000 in
theorem rwrite_FTFFF (m : Mg) (A : Option Addr) (c : Nat) (w : World) (hf : FitM m) (hE : ES w A m.l.length m.l) (hb : uB m.k = false) (hs : uS m.k = true) (hn : uN m.k = false) (hv : uV m.k = false) (hl : uL m.k = false) (hnil : m.l = []) :
    Calls Tryz.prog 47 #[.agg #[.int .i64 m.k, .int .i64 m.fr, .int .i64 m.tt, .int .i64 m.ro, .int .i64 m.no, .int .i64 m.sl, .int .i64 m.nu, .string (sOf m.v), .slice A m.l.length c]] w fun e w' => ∃ A' c', e = .returned (.slice A' (bytesM m).length c') ∧ IsBytes w A' c' (bytesM m) w' := by
  have hd := hf.hd
  simp only [headOK, decide_eq_true_eq] at hd
  obtain ⟨d1, d2, d3, d4, d5, d6, d7⟩ := hd
  obtain ⟨⟨f0, f1⟩, ⟨f2, f3⟩⟩ := hf.b; obtain ⟨f4, f5⟩ := hf.s; obtain ⟨f6, f7⟩ := hf.n; have f8 := hf.v; have f9 := hf.ln
  have ek := enc_len (n := m.k.toNat) (by omega)
  have efr := enc_len (n := m.fr.toNat) (by omega)
  have ett := enc_len (n := m.tt.toNat) (by omega)
  have ero := enc_len (n := m.ro.toNat) (by omega)
  have eno := enc_len (n := m.no.toNat) (by omega)
  have esl := enc_len (n := m.sl.toNat) (by omega)
  have enu := enc_len (n := m.nu.toNat) (by omega)
  have ev := enc_len (n := m.v.length) (by omega)
  have en := enc_len (n := m.l.length) (by omega)
  obtain ⟨n, hN⟩ : ∃ n, n = m.l.length := ⟨_, rfl⟩
  rw [← hN] at hE en f9 ⊢
  obtain ⟨z0, hz0⟩ : ∃ z, z = ([] : List UInt8) ++ enc m.k.toNat := ⟨_, rfl⟩
  have L0 : z0.length ≤ 10 := by rw [hz0]; simpa using ek
  obtain ⟨z1, hz1⟩ : ∃ z, z = z0 ++ enc m.fr.toNat := ⟨_, rfl⟩
  have L1 : z1.length ≤ 20 := by rw [hz1]; simp only [List.length_append]; omega
  obtain ⟨z2, hz2⟩ : ∃ z, z = z1 ++ enc m.tt.toNat := ⟨_, rfl⟩
  have L2 : z2.length ≤ 30 := by rw [hz2]; simp only [List.length_append]; omega
  obtain ⟨z3, hz3⟩ : ∃ z, z = z2 ++ enc m.sl.toNat := ⟨_, rfl⟩
  have L3 : z3.length ≤ 40 := by rw [hz3]; simp only [List.length_append]; omega
  have hfin : bytesM m = z3 ++ bEnts m.l := by
    have q1 : bB m = [] := by unfold bB; rw [hb]; rfl
    have q2 : bS m = enc m.sl.toNat := by unfold bS; rw [hs]; rfl
    have q3 : bN m = [] := by unfold bN; rw [hn]; rfl
    have q4 : bV m = [] := by unfold bV; rw [hv]; rfl
    have q5 : bL m = bEnts m.l := by unfold bL; rw [hl]; rw [hnil]; rfl
    unfold bytesM bHead
    rw [q1, q2, q3, q4, q5, hz3, hz2, hz1, hz0]
    simp only [List.append_assoc, List.nil_append, List.append_nil]
  replace hz0 := Lib.hid hz0
  replace hz1 := Lib.hid hz1
  replace hz2 := Lib.hid hz2
  replace hz3 := Lib.hid hz3
  have us := fun W => uses_any m.k ⟨d1, d2⟩ W
  simp only [hb, hs, hn, hv, hl] at us
  replace us := Lib.hid us
  have h0 : RW w (w.heap.size + 1) [(w.heap.size, #[.int .i64 m.k, .int .i64 m.fr, .int .i64 m.tt, .int .i64 m.ro, .int .i64 m.no, .int .i64 m.sl, .int .i64 m.nu, .string (sOf m.v), .slice A n c], 28)] [] ((w.alloc (.cells #[.int .i64 m.k, .int .i64 m.fr, .int .i64 m.tt, .int .i64 m.ro, .int .i64 m.no, .int .i64 m.sl, .int .i64 m.nu, .string (sOf m.v), .slice A n c] 28)).alloc (.cells #[.bool true, .slice none 0 0] 133)) := by
    have b2 : Below w.heap.size w (w.alloc (.cells #[.int .i64 m.k, .int .i64 m.fr, .int .i64 m.tt, .int .i64 m.ro, .int .i64 m.no, .int .i64 m.sl, .int .i64 m.nu, .string (sOf m.v), .slice A n c] 28)) := (Below.refl _ w).alloc (Nat.le_refl _) _
    refine ⟨by omega, b2.alloc (by simp) _, ⟨none, 0, ⟨hpNewAt _ (by simp), World.ownsRow_nil _ _ _ _⟩, fun k hk => by cases hk⟩, fun x hx => ?_⟩
    simp only [List.mem_cons, List.not_mem_nil, or_false] at hx
    subst hx
    exact ⟨(hpOld _ (by simp)).trans (hpNew _ _), (show 28 ≠ 5 from by decide), by simp⟩
  replace h0 := Lib.hid h0; replace hE := Lib.hid hE; replace hfin := Lib.hid hfin; replace hN := Lib.hid hN; replace hf := Lib.hid hf; replace hnil := Lib.hid hnil
  replace hb := Lib.hid hb; replace hs := Lib.hid hs; replace hn := Lib.hid hn; replace hv := Lib.hid hv; replace hl := Lib.hid hl
  clear ek efr ett ero eno esl enu ev en
  go_enter Tryz.func47, Tryz.ntmps47
  go_wp2_with (fail)
  refine (rNew_any _).mono ?_
  rintro e w3 ⟨rfl, rfl⟩
  obtain ⟨W0, hW0⟩ : ∃ W, W = ((w.alloc (.cells #[.int .i64 m.k, .int .i64 m.fr, .int .i64 m.tt, .int .i64 m.ro, .int .i64 m.no, .int .i64 m.sl, .int .i64 m.nu, .string (sOf m.v), .slice A n c] 28)).alloc (.cells #[.bool true, .slice none 0 0] 133)) := ⟨_, rfl⟩
  rw [← hW0] at h0
  skip
  have u0 : W0.cell? ⟨w.heap.size, 0, none⟩ = some (.int .i64 m.k) := blkC h0.out.blk 0
  have u1 : W0.cell? ⟨w.heap.size, 1, none⟩ = some (.int .i64 m.fr) := blkC h0.out.blk 1
  have u2 : W0.cell? ⟨w.heap.size, 2, none⟩ = some (.int .i64 m.tt) := blkC h0.out.blk 2
  have u3 : W0.cell? ⟨w.heap.size, 3, none⟩ = some (.int .i64 m.ro) := blkC h0.out.blk 3
  have u4 : W0.cell? ⟨w.heap.size, 4, none⟩ = some (.int .i64 m.no) := blkC h0.out.blk 4
  have u5 : W0.cell? ⟨w.heap.size, 5, none⟩ = some (.int .i64 m.sl) := blkC h0.out.blk 5
  have u6 : W0.cell? ⟨w.heap.size, 6, none⟩ = some (.int .i64 m.nu) := blkC h0.out.blk 6
  have u7 : W0.cell? ⟨w.heap.size, 7, none⟩ = some (.string (sOf m.v)) := blkC h0.out.blk 7
  have u8 : W0.cell? ⟨w.heap.size, 8, none⟩ = some (.slice A n c) := blkC h0.out.blk 8
  have lU := blkX h0.out.blk
  rw [← hW0]
  clear hW0
  go_wp2_with (fail)
  refine (us.out _).mono ?_
  rintro e w4 ⟨rfl, rfl⟩
  clear us
  go_wp2_with (fail)
  refine (RWB.uint h0.out _ m.k.toNat (by first | rfl | (simp [IntKind.wrap, IntKind.signed, IntKind.bits]; omega)) (by omega) (by simp)).mono ?_
  rintro e W1 ⟨rfl, h1⟩
  replace h1 := Lib.hid (h1.cast hz0.out.symm)
  clear u0 u1 u2 u3 u4 u5 u6 u7 u8 lU
  clear h0
  have u0 : W1.cell? ⟨w.heap.size, 0, none⟩ = some (.int .i64 m.k) := blkC h1.out.blk 0
  have u1 : W1.cell? ⟨w.heap.size, 1, none⟩ = some (.int .i64 m.fr) := blkC h1.out.blk 1
  have u2 : W1.cell? ⟨w.heap.size, 2, none⟩ = some (.int .i64 m.tt) := blkC h1.out.blk 2
  have u3 : W1.cell? ⟨w.heap.size, 3, none⟩ = some (.int .i64 m.ro) := blkC h1.out.blk 3
  have u4 : W1.cell? ⟨w.heap.size, 4, none⟩ = some (.int .i64 m.no) := blkC h1.out.blk 4
  have u5 : W1.cell? ⟨w.heap.size, 5, none⟩ = some (.int .i64 m.sl) := blkC h1.out.blk 5
  have u6 : W1.cell? ⟨w.heap.size, 6, none⟩ = some (.int .i64 m.nu) := blkC h1.out.blk 6
  have u7 : W1.cell? ⟨w.heap.size, 7, none⟩ = some (.string (sOf m.v)) := blkC h1.out.blk 7
  have u8 : W1.cell? ⟨w.heap.size, 8, none⟩ = some (.slice A n c) := blkC h1.out.blk 8
  have lU := blkX h1.out.blk
  go_wp2_with (fail)
  refine (RWB.uint h1.out _ m.fr.toNat (by first | rfl | (simp [IntKind.wrap, IntKind.signed, IntKind.bits]; omega)) (by omega) (by omega)).mono ?_
  rintro e W2 ⟨rfl, h2⟩
  replace h2 := Lib.hid (h2.cast hz1.out.symm)
  clear u0 u1 u2 u3 u4 u5 u6 u7 u8 lU
  clear h1
  have u0 : W2.cell? ⟨w.heap.size, 0, none⟩ = some (.int .i64 m.k) := blkC h2.out.blk 0
  have u1 : W2.cell? ⟨w.heap.size, 1, none⟩ = some (.int .i64 m.fr) := blkC h2.out.blk 1
  have u2 : W2.cell? ⟨w.heap.size, 2, none⟩ = some (.int .i64 m.tt) := blkC h2.out.blk 2
  have u3 : W2.cell? ⟨w.heap.size, 3, none⟩ = some (.int .i64 m.ro) := blkC h2.out.blk 3
  have u4 : W2.cell? ⟨w.heap.size, 4, none⟩ = some (.int .i64 m.no) := blkC h2.out.blk 4
  have u5 : W2.cell? ⟨w.heap.size, 5, none⟩ = some (.int .i64 m.sl) := blkC h2.out.blk 5
  have u6 : W2.cell? ⟨w.heap.size, 6, none⟩ = some (.int .i64 m.nu) := blkC h2.out.blk 6
  have u7 : W2.cell? ⟨w.heap.size, 7, none⟩ = some (.string (sOf m.v)) := blkC h2.out.blk 7
  have u8 : W2.cell? ⟨w.heap.size, 8, none⟩ = some (.slice A n c) := blkC h2.out.blk 8
  have lU := blkX h2.out.blk
  go_wp2_with (fail)
  refine (RWB.uint h2.out _ m.tt.toNat (by first | rfl | (simp [IntKind.wrap, IntKind.signed, IntKind.bits]; omega)) (by omega) (by omega)).mono ?_
  rintro e W3 ⟨rfl, h3⟩
  replace h3 := Lib.hid (h3.cast hz2.out.symm)
  clear u0 u1 u2 u3 u4 u5 u6 u7 u8 lU
  clear h2
  have u0 : W3.cell? ⟨w.heap.size, 0, none⟩ = some (.int .i64 m.k) := blkC h3.out.blk 0
  have u1 : W3.cell? ⟨w.heap.size, 1, none⟩ = some (.int .i64 m.fr) := blkC h3.out.blk 1
  have u2 : W3.cell? ⟨w.heap.size, 2, none⟩ = some (.int .i64 m.tt) := blkC h3.out.blk 2
  have u3 : W3.cell? ⟨w.heap.size, 3, none⟩ = some (.int .i64 m.ro) := blkC h3.out.blk 3
  have u4 : W3.cell? ⟨w.heap.size, 4, none⟩ = some (.int .i64 m.no) := blkC h3.out.blk 4
  have u5 : W3.cell? ⟨w.heap.size, 5, none⟩ = some (.int .i64 m.sl) := blkC h3.out.blk 5
  have u6 : W3.cell? ⟨w.heap.size, 6, none⟩ = some (.int .i64 m.nu) := blkC h3.out.blk 6
  have u7 : W3.cell? ⟨w.heap.size, 7, none⟩ = some (.string (sOf m.v)) := blkC h3.out.blk 7
  have u8 : W3.cell? ⟨w.heap.size, 8, none⟩ = some (.slice A n c) := blkC h3.out.blk 8
  have lU := blkX h3.out.blk
  go_wp2_with (fail)
  refine (RWB.uint h3.out _ m.sl.toNat (by first | rfl | (simp [IntKind.wrap, IntKind.signed, IntKind.bits]; omega)) (by omega) (by omega)).mono ?_
  rintro e W4 ⟨rfl, h4⟩
  replace h4 := Lib.hid (h4.cast hz3.out.symm)
  clear u0 u1 u2 u3 u4 u5 u6 u7 u8 lU
  clear h3
  have u0 : W4.cell? ⟨w.heap.size, 0, none⟩ = some (.int .i64 m.k) := blkC h4.out.blk 0
  have u1 : W4.cell? ⟨w.heap.size, 1, none⟩ = some (.int .i64 m.fr) := blkC h4.out.blk 1
  have u2 : W4.cell? ⟨w.heap.size, 2, none⟩ = some (.int .i64 m.tt) := blkC h4.out.blk 2
  have u3 : W4.cell? ⟨w.heap.size, 3, none⟩ = some (.int .i64 m.ro) := blkC h4.out.blk 3
  have u4 : W4.cell? ⟨w.heap.size, 4, none⟩ = some (.int .i64 m.no) := blkC h4.out.blk 4
  have u5 : W4.cell? ⟨w.heap.size, 5, none⟩ = some (.int .i64 m.sl) := blkC h4.out.blk 5
  have u6 : W4.cell? ⟨w.heap.size, 6, none⟩ = some (.int .i64 m.nu) := blkC h4.out.blk 6
  have u7 : W4.cell? ⟨w.heap.size, 7, none⟩ = some (.string (sOf m.v)) := blkC h4.out.blk 7
  have u8 : W4.cell? ⟨w.heap.size, 8, none⟩ = some (.slice A n c) := blkC h4.out.blk 8
  have lU := blkX h4.out.blk
  go_wp2_with (fail)
  go_loopw [9] (fun i wr => ∃ k : Nat, k ≤ n ∧ i = .int .i64 k ∧ RW w (w.heap.size + 1) [(w.heap.size, #[.int .i64 m.k, .int .i64 m.fr, .int .i64 m.tt, .int .i64 m.ro, .int .i64 m.no, .int .i64 m.sl, .int .i64 m.nu, .string (sOf m.v), .slice A n c], 28)] (z3 ++ bEnts (m.l.take k)) wr) (fun i _ => n - (intOf i).toNat)
  case atStart => exact ⟨0, by omega, rfl, h4.out.cast (by simp [bEnts])⟩
  case round =>
    revert wr
    intro Y hrel
    obtain ⟨k, hk, rfl, h3⟩ := hrel
    clear u0 u1 u2 u3 u4 u5 u6 u7 u8 lU h4
    have z8 : Y.cell? ⟨w.heap.size, 8, none⟩ = some (.slice A n c) := blkC h3.blk 8
    have lU := blkX h3.blk
    by_cases hlt : k < n
    · obtain ⟨b, o, x, rfl, hbl, hx, c0, c1, c2, c3⟩ := ES.at_ hE.out hlt
      obtain ⟨g1, g2, g3, g4⟩ := hf.out.l x (List.mem_of_getElem? hx)
      have hsn := bEnts_snoc hx
      have hlen := bEnts_len (l := m.l.take k) fun y hy => hf.out.l y (List.mem_of_mem_take hy)
      rw [List.length_take] at hlen
      have i0 := enc_len (n := x.sl.toNat) (by omega)
      have i1 := enc_len (n := x.ro.toNat) (by omega)
      have i2 := enc_len (n := x.no.toNat) (by omega)
      have i3 := enc_len (n := x.v.length) (by omega)
      have k0 : (0 : Int) ≤ k := by omega
      have k1 : (k : Int) < (n : Int) := by omega
      obtain ⟨y0, hy0⟩ : ∃ y, y = z3 ++ bEnts (m.l.take k) := ⟨_, rfl⟩
      have M0 : y0.length ≤ 800000000 := by rw [hy0]; simp only [List.length_append]; omega
      rw [← hy0] at h3
      obtain ⟨y1, hy1⟩ : ∃ y, y = y0 ++ enc x.sl.toNat := ⟨_, rfl⟩
      have M1 : y1.length ≤ 800070000 := by rw [hy1]; simp only [List.length_append]; omega
      obtain ⟨y2, hy2⟩ : ∃ y, y = y1 ++ enc x.ro.toNat := ⟨_, rfl⟩
      have M2 : y2.length ≤ 800140000 := by rw [hy2]; simp only [List.length_append]; omega
      obtain ⟨y3, hy3⟩ : ∃ y, y = y2 ++ enc x.no.toNat := ⟨_, rfl⟩
      have M3 : y3.length ≤ 800210000 := by rw [hy3]; simp only [List.length_append]; omega
      obtain ⟨y4, hy4⟩ : ∃ y, y = y3 ++ (enc x.v.length ++ x.v) := ⟨_, rfl⟩
      have M4 : y4.length ≤ 800280000 := by rw [hy4]; simp only [List.length_append]; omega
      have hout : y4 = z3 ++ bEnts (m.l.take (k + 1)) := by rw [hsn, hy4, hy3, hy2, hy1, hy0]; simp only [bEnt, List.append_assoc]
      replace hout := Lib.hid hout; replace hy0 := Lib.hid hy0; replace hy1 := Lib.hid hy1; replace hy2 := Lib.hid hy2; replace hy3 := Lib.hid hy3; replace hy4 := Lib.hid hy4; replace hsn := Lib.hid hsn; replace hlen := Lib.hid hlen; replace c0 := Lib.hid c0; replace c1 := Lib.hid c1; replace c2 := Lib.hid c2; replace c3 := Lib.hid c3
      clear hx
      replace h3 := Lib.hid h3
      have s0 := (h3.out.bel.cell (p := ⟨b, o + k * 4, none⟩) hbl).trans c0.out
      have s1 := (h3.out.bel.cell (p := ⟨b, o + k * 4 + 1, none⟩) hbl).trans c1.out
      have s2 := (h3.out.bel.cell (p := ⟨b, o + k * 4 + 2, none⟩) hbl).trans c2.out
      have s3 := (h3.out.bel.cell (p := ⟨b, o + k * 4 + 3, none⟩) hbl).trans c3.out
      go_wp2_with (fail)
      refine (RWB.uint h3.out _ x.sl.toNat (by first | rfl | (simp [IntKind.wrap, IntKind.signed, IntKind.bits]; omega)) (by omega) (by omega)).mono ?_
      rintro e Y1 ⟨rfl, h40⟩
      replace h40 := Lib.hid (h40.cast hy1.out.symm)
      clear s0 s1 s2 s3 z8 lU h3
      have z8 : Y1.cell? ⟨w.heap.size, 8, none⟩ = some (.slice (some ⟨b, o, none⟩) n c) := blkC h40.out.blk 8
      have lU := blkX h40.out.blk
      have s0 := (h40.out.bel.cell (p := ⟨b, o + k * 4, none⟩) hbl).trans c0.out
      have s1 := (h40.out.bel.cell (p := ⟨b, o + k * 4 + 1, none⟩) hbl).trans c1.out
      have s2 := (h40.out.bel.cell (p := ⟨b, o + k * 4 + 2, none⟩) hbl).trans c2.out
      have s3 := (h40.out.bel.cell (p := ⟨b, o + k * 4 + 3, none⟩) hbl).trans c3.out
      go_wp2_with (fail)
      refine (RWB.uint h40.out _ x.ro.toNat (by first | rfl | (simp [IntKind.wrap, IntKind.signed, IntKind.bits]; omega)) (by omega) (by omega)).mono ?_
      rintro e Y2 ⟨rfl, h41⟩
      replace h41 := Lib.hid (h41.cast hy2.out.symm)
      clear s0 s1 s2 s3 z8 lU h40
      have z8 : Y2.cell? ⟨w.heap.size, 8, none⟩ = some (.slice (some ⟨b, o, none⟩) n c) := blkC h41.out.blk 8
      have lU := blkX h41.out.blk
      have s0 := (h41.out.bel.cell (p := ⟨b, o + k * 4, none⟩) hbl).trans c0.out
      have s1 := (h41.out.bel.cell (p := ⟨b, o + k * 4 + 1, none⟩) hbl).trans c1.out
      have s2 := (h41.out.bel.cell (p := ⟨b, o + k * 4 + 2, none⟩) hbl).trans c2.out
      have s3 := (h41.out.bel.cell (p := ⟨b, o + k * 4 + 3, none⟩) hbl).trans c3.out
      go_wp2_with (fail)
      refine (RWB.uint h41.out _ x.no.toNat (by first | rfl | (simp [IntKind.wrap, IntKind.signed, IntKind.bits]; omega)) (by omega) (by omega)).mono ?_
      rintro e Y3 ⟨rfl, h42⟩
      replace h42 := Lib.hid (h42.cast hy3.out.symm)
      clear s0 s1 s2 s3 z8 lU h41
      have z8 : Y3.cell? ⟨w.heap.size, 8, none⟩ = some (.slice (some ⟨b, o, none⟩) n c) := blkC h42.out.blk 8
      have lU := blkX h42.out.blk
      have s0 := (h42.out.bel.cell (p := ⟨b, o + k * 4, none⟩) hbl).trans c0.out
      have s1 := (h42.out.bel.cell (p := ⟨b, o + k * 4 + 1, none⟩) hbl).trans c1.out
      have s2 := (h42.out.bel.cell (p := ⟨b, o + k * 4 + 2, none⟩) hbl).trans c2.out
      have s3 := (h42.out.bel.cell (p := ⟨b, o + k * 4 + 3, none⟩) hbl).trans c3.out
      go_wp2_with (fail)
      refine (RWB.text h42.out x.v (by omega) (by omega)).mono ?_
      rintro e Y4 ⟨rfl, h43⟩
      replace h43 := Lib.hid (h43.cast hy4.out.symm)
      clear s0 s1 s2 s3 z8 lU h42
      go_wp2_with (fail)
      exact ⟨⟨k + 1, by omega, by go_num, h43.out.cast hout.out⟩, by simp [intOf]; omega⟩
    · obtain rfl : k = n := by omega
      have hft : m.l.take k = m.l := by rw [hN.out, List.take_length]
      rw [hft, ← hfin.out] at h3
      have hk1 : ¬ (k : Int) < (k : Int) := by omega
      have Lf : (bytesM m).length ≤ 800000000 := by rw [hfin.out, List.length_append]; have := bEnts_len (l := m.l) hf.out.l; have := hN.out; omega
      obtain ⟨A1, c1, hi, -⟩ := h3.ex
      have hby := rBytes_any (w.heap.size + 1) A1 c1 (bytesM m) Y hi (by omega) (by omega)
      have bel := Lib.hid h3.bel
      replace hby := Lib.hid hby
      clear hi
      replace h3 := Lib.hid h3
      go_wp2_with (fail)
      refine hby.out.mono ?_
      rintro e w7 ⟨A7, c7, rfl, o7, b7⟩
      have hfn : IsBytes w A7 c7 (bytesM m) w7 := ⟨o7.mono bel.out.size, bel.out.trans (b7.mono bel.out.size)⟩
      replace hfn := Lib.hid hfn
      clear o7 b7
      go_wp2_with (fail)
      go_ret
      exact ⟨A7, c7, rfl, hfn.out⟩
end Go.Proofs.YtlinjanflenljaaGreatDoor

namespace Go.Proofs.YtlinjanflenljaaGreatDoor
open Go.RowKit
set_option linter.unusedSimpArgs false
set_option linter.unusedVariables false
set_option linter.unusedSectionVars false
set_option maxRecDepth 10000
set_option maxHeartbeats 32000000 in
theorem rwrite_TTFTF (m : Mg) (A : Option Addr) (c : Nat) (w : World) (hf : FitM m) (hE : ES w A m.l.length m.l) (hb : uB m.k = true) (hs : uS m.k = true) (hn : uN m.k = false) (hv : uV m.k = true) (hl : uL m.k = false) (hnil : m.l = []) :
    Calls Tryz.prog 47 #[.agg #[.int .i64 m.k, .int .i64 m.fr, .int .i64 m.tt, .int .i64 m.ro, .int .i64 m.no, .int .i64 m.sl, .int .i64 m.nu, .string (sOf m.v), .slice A m.l.length c]] w fun e w' => ∃ A' c', e = .returned (.slice A' (bytesM m).length c') ∧ IsBytes w A' c' (bytesM m) w' := by
  have hd := hf.hd
  simp only [headOK, decide_eq_true_eq] at hd
  obtain ⟨d1, d2, d3, d4, d5, d6, d7⟩ := hd
  obtain ⟨⟨f0, f1⟩, ⟨f2, f3⟩⟩ := hf.b; obtain ⟨f4, f5⟩ := hf.s; obtain ⟨f6, f7⟩ := hf.n; have f8 := hf.v; have f9 := hf.ln
  have ek := enc_len (n := m.k.toNat) (by omega)
  have efr := enc_len (n := m.fr.toNat) (by omega)
  have ett := enc_len (n := m.tt.toNat) (by omega)
  have ero := enc_len (n := m.ro.toNat) (by omega)
  have eno := enc_len (n := m.no.toNat) (by omega)
  have esl := enc_len (n := m.sl.toNat) (by omega)
  have enu := enc_len (n := m.nu.toNat) (by omega)
  have ev := enc_len (n := m.v.length) (by omega)
  have en := enc_len (n := m.l.length) (by omega)
  obtain ⟨n, hN⟩ : ∃ n, n = m.l.length := ⟨_, rfl⟩
  rw [← hN] at hE en f9 ⊢
  obtain ⟨z0, hz0⟩ : ∃ z, z = ([] : List UInt8) ++ enc m.k.toNat := ⟨_, rfl⟩
  have L0 : z0.length ≤ 10 := by rw [hz0]; simpa using ek
  obtain ⟨z1, hz1⟩ : ∃ z, z = z0 ++ enc m.fr.toNat := ⟨_, rfl⟩
  have L1 : z1.length ≤ 20 := by rw [hz1]; simp only [List.length_append]; omega
  obtain ⟨z2, hz2⟩ : ∃ z, z = z1 ++ enc m.tt.toNat := ⟨_, rfl⟩
  have L2 : z2.length ≤ 30 := by rw [hz2]; simp only [List.length_append]; omega
  obtain ⟨z3, hz3⟩ : ∃ z, z = z2 ++ enc m.ro.toNat := ⟨_, rfl⟩
  have L3 : z3.length ≤ 40 := by rw [hz3]; simp only [List.length_append]; omega
  obtain ⟨z4, hz4⟩ : ∃ z, z = z3 ++ enc m.no.toNat := ⟨_, rfl⟩
  have L4 : z4.length ≤ 50 := by rw [hz4]; simp only [List.length_append]; omega
  obtain ⟨z5, hz5⟩ : ∃ z, z = z4 ++ enc m.sl.toNat := ⟨_, rfl⟩
  have L5 : z5.length ≤ 60 := by rw [hz5]; simp only [List.length_append]; omega
  obtain ⟨z6, hz6⟩ : ∃ z, z = z5 ++ (enc m.v.length ++ m.v) := ⟨_, rfl⟩
  have L6 : z6.length ≤ 70060 := by rw [hz6]; simp only [List.length_append]; omega
  have hfin : bytesM m = z6 ++ bEnts m.l := by
    have q1 : bB m = enc m.ro.toNat ++ enc m.no.toNat := by unfold bB; rw [hb]; rfl
    have q2 : bS m = enc m.sl.toNat := by unfold bS; rw [hs]; rfl
    have q3 : bN m = [] := by unfold bN; rw [hn]; rfl
    have q4 : bV m = enc m.v.length ++ m.v := by unfold bV; rw [hv]; rfl
    have q5 : bL m = bEnts m.l := by unfold bL; rw [hl]; rw [hnil]; rfl
    unfold bytesM bHead
    rw [q1, q2, q3, q4, q5, hz6, hz5, hz4, hz3, hz2, hz1, hz0]
    simp only [List.append_assoc, List.nil_append, List.append_nil]
  replace hz0 := Lib.hid hz0
  replace hz1 := Lib.hid hz1
  replace hz2 := Lib.hid hz2
  replace hz3 := Lib.hid hz3
  replace hz4 := Lib.hid hz4
  replace hz5 := Lib.hid hz5
  replace hz6 := Lib.hid hz6
  have us := fun W => uses_any m.k ⟨d1, d2⟩ W
  simp only [hb, hs, hn, hv, hl] at us
  replace us := Lib.hid us
  have h0 : RW w (w.heap.size + 1) [(w.heap.size, #[.int .i64 m.k, .int .i64 m.fr, .int .i64 m.tt, .int .i64 m.ro, .int .i64 m.no, .int .i64 m.sl, .int .i64 m.nu, .string (sOf m.v), .slice A n c], 28)] [] ((w.alloc (.cells #[.int .i64 m.k, .int .i64 m.fr, .int .i64 m.tt, .int .i64 m.ro, .int .i64 m.no, .int .i64 m.sl, .int .i64 m.nu, .string (sOf m.v), .slice A n c] 28)).alloc (.cells #[.bool true, .slice none 0 0] 133)) := by
    have b2 : Below w.heap.size w (w.alloc (.cells #[.int .i64 m.k, .int .i64 m.fr, .int .i64 m.tt, .int .i64 m.ro, .int .i64 m.no, .int .i64 m.sl, .int .i64 m.nu, .string (sOf m.v), .slice A n c] 28)) := (Below.refl _ w).alloc (Nat.le_refl _) _
    refine ⟨by omega, b2.alloc (by simp) _, ⟨none, 0, ⟨hpNewAt _ (by simp), World.ownsRow_nil _ _ _ _⟩, fun k hk => by cases hk⟩, fun x hx => ?_⟩
    simp only [List.mem_cons, List.not_mem_nil, or_false] at hx
    subst hx
    exact ⟨(hpOld _ (by simp)).trans (hpNew _ _), (show 28 ≠ 5 from by decide), by simp⟩
  replace h0 := Lib.hid h0; replace hE := Lib.hid hE; replace hfin := Lib.hid hfin; replace hN := Lib.hid hN; replace hf := Lib.hid hf; replace hnil := Lib.hid hnil
  replace hb := Lib.hid hb; replace hs := Lib.hid hs; replace hn := Lib.hid hn; replace hv := Lib.hid hv; replace hl := Lib.hid hl
  clear ek efr ett ero eno esl enu ev en
  go_enter Tryz.func47, Tryz.ntmps47
  go_wp2_with (fail)
  refine (rNew_any _).mono ?_
  rintro e w3 ⟨rfl, rfl⟩
  obtain ⟨W0, hW0⟩ : ∃ W, W = ((w.alloc (.cells #[.int .i64 m.k, .int .i64 m.fr, .int .i64 m.tt, .int .i64 m.ro, .int .i64 m.no, .int .i64 m.sl, .int .i64 m.nu, .string (sOf m.v), .slice A n c] 28)).alloc (.cells #[.bool true, .slice none 0 0] 133)) := ⟨_, rfl⟩
  rw [← hW0] at h0
  skip
  have u0 : W0.cell? ⟨w.heap.size, 0, none⟩ = some (.int .i64 m.k) := blkC h0.out.blk 0
  have u1 : W0.cell? ⟨w.heap.size, 1, none⟩ = some (.int .i64 m.fr) := blkC h0.out.blk 1
  have u2 : W0.cell? ⟨w.heap.size, 2, none⟩ = some (.int .i64 m.tt) := blkC h0.out.blk 2
  have u3 : W0.cell? ⟨w.heap.size, 3, none⟩ = some (.int .i64 m.ro) := blkC h0.out.blk 3
  have u4 : W0.cell? ⟨w.heap.size, 4, none⟩ = some (.int .i64 m.no) := blkC h0.out.blk 4
  have u5 : W0.cell? ⟨w.heap.size, 5, none⟩ = some (.int .i64 m.sl) := blkC h0.out.blk 5
  have u6 : W0.cell? ⟨w.heap.size, 6, none⟩ = some (.int .i64 m.nu) := blkC h0.out.blk 6
  have u7 : W0.cell? ⟨w.heap.size, 7, none⟩ = some (.string (sOf m.v)) := blkC h0.out.blk 7
  have u8 : W0.cell? ⟨w.heap.size, 8, none⟩ = some (.slice A n c) := blkC h0.out.blk 8
  have lU := blkX h0.out.blk
  rw [← hW0]
  clear hW0
  go_wp2_with (fail)
  refine (us.out _).mono ?_
  rintro e w4 ⟨rfl, rfl⟩
  clear us
  go_wp2_with (fail)
  refine (RWB.uint h0.out _ m.k.toNat (by first | rfl | (simp [IntKind.wrap, IntKind.signed, IntKind.bits]; omega)) (by omega) (by simp)).mono ?_
  rintro e W1 ⟨rfl, h1⟩
  replace h1 := Lib.hid (h1.cast hz0.out.symm)
  clear u0 u1 u2 u3 u4 u5 u6 u7 u8 lU
  clear h0
  have u0 : W1.cell? ⟨w.heap.size, 0, none⟩ = some (.int .i64 m.k) := blkC h1.out.blk 0
  have u1 : W1.cell? ⟨w.heap.size, 1, none⟩ = some (.int .i64 m.fr) := blkC h1.out.blk 1
  have u2 : W1.cell? ⟨w.heap.size, 2, none⟩ = some (.int .i64 m.tt) := blkC h1.out.blk 2
  have u3 : W1.cell? ⟨w.heap.size, 3, none⟩ = some (.int .i64 m.ro) := blkC h1.out.blk 3
  have u4 : W1.cell? ⟨w.heap.size, 4, none⟩ = some (.int .i64 m.no) := blkC h1.out.blk 4
  have u5 : W1.cell? ⟨w.heap.size, 5, none⟩ = some (.int .i64 m.sl) := blkC h1.out.blk 5
  have u6 : W1.cell? ⟨w.heap.size, 6, none⟩ = some (.int .i64 m.nu) := blkC h1.out.blk 6
  have u7 : W1.cell? ⟨w.heap.size, 7, none⟩ = some (.string (sOf m.v)) := blkC h1.out.blk 7
  have u8 : W1.cell? ⟨w.heap.size, 8, none⟩ = some (.slice A n c) := blkC h1.out.blk 8
  have lU := blkX h1.out.blk
  go_wp2_with (fail)
  refine (RWB.uint h1.out _ m.fr.toNat (by first | rfl | (simp [IntKind.wrap, IntKind.signed, IntKind.bits]; omega)) (by omega) (by omega)).mono ?_
  rintro e W2 ⟨rfl, h2⟩
  replace h2 := Lib.hid (h2.cast hz1.out.symm)
  clear u0 u1 u2 u3 u4 u5 u6 u7 u8 lU
  clear h1
  have u0 : W2.cell? ⟨w.heap.size, 0, none⟩ = some (.int .i64 m.k) := blkC h2.out.blk 0
  have u1 : W2.cell? ⟨w.heap.size, 1, none⟩ = some (.int .i64 m.fr) := blkC h2.out.blk 1
  have u2 : W2.cell? ⟨w.heap.size, 2, none⟩ = some (.int .i64 m.tt) := blkC h2.out.blk 2
  have u3 : W2.cell? ⟨w.heap.size, 3, none⟩ = some (.int .i64 m.ro) := blkC h2.out.blk 3
  have u4 : W2.cell? ⟨w.heap.size, 4, none⟩ = some (.int .i64 m.no) := blkC h2.out.blk 4
  have u5 : W2.cell? ⟨w.heap.size, 5, none⟩ = some (.int .i64 m.sl) := blkC h2.out.blk 5
  have u6 : W2.cell? ⟨w.heap.size, 6, none⟩ = some (.int .i64 m.nu) := blkC h2.out.blk 6
  have u7 : W2.cell? ⟨w.heap.size, 7, none⟩ = some (.string (sOf m.v)) := blkC h2.out.blk 7
  have u8 : W2.cell? ⟨w.heap.size, 8, none⟩ = some (.slice A n c) := blkC h2.out.blk 8
  have lU := blkX h2.out.blk
  go_wp2_with (fail)
  refine (RWB.uint h2.out _ m.tt.toNat (by first | rfl | (simp [IntKind.wrap, IntKind.signed, IntKind.bits]; omega)) (by omega) (by omega)).mono ?_
  rintro e W3 ⟨rfl, h3⟩
  replace h3 := Lib.hid (h3.cast hz2.out.symm)
  clear u0 u1 u2 u3 u4 u5 u6 u7 u8 lU
  clear h2
  have u0 : W3.cell? ⟨w.heap.size, 0, none⟩ = some (.int .i64 m.k) := blkC h3.out.blk 0
  have u1 : W3.cell? ⟨w.heap.size, 1, none⟩ = some (.int .i64 m.fr) := blkC h3.out.blk 1
  have u2 : W3.cell? ⟨w.heap.size, 2, none⟩ = some (.int .i64 m.tt) := blkC h3.out.blk 2
  have u3 : W3.cell? ⟨w.heap.size, 3, none⟩ = some (.int .i64 m.ro) := blkC h3.out.blk 3
  have u4 : W3.cell? ⟨w.heap.size, 4, none⟩ = some (.int .i64 m.no) := blkC h3.out.blk 4
  have u5 : W3.cell? ⟨w.heap.size, 5, none⟩ = some (.int .i64 m.sl) := blkC h3.out.blk 5
  have u6 : W3.cell? ⟨w.heap.size, 6, none⟩ = some (.int .i64 m.nu) := blkC h3.out.blk 6
  have u7 : W3.cell? ⟨w.heap.size, 7, none⟩ = some (.string (sOf m.v)) := blkC h3.out.blk 7
  have u8 : W3.cell? ⟨w.heap.size, 8, none⟩ = some (.slice A n c) := blkC h3.out.blk 8
  have lU := blkX h3.out.blk
  go_wp2_with (fail)
  refine (RWB.uint h3.out _ m.ro.toNat (by first | rfl | (simp [IntKind.wrap, IntKind.signed, IntKind.bits]; omega)) (by omega) (by omega)).mono ?_
  rintro e W4 ⟨rfl, h4⟩
  replace h4 := Lib.hid (h4.cast hz3.out.symm)
  clear u0 u1 u2 u3 u4 u5 u6 u7 u8 lU
  clear h3
  have u0 : W4.cell? ⟨w.heap.size, 0, none⟩ = some (.int .i64 m.k) := blkC h4.out.blk 0
  have u1 : W4.cell? ⟨w.heap.size, 1, none⟩ = some (.int .i64 m.fr) := blkC h4.out.blk 1
  have u2 : W4.cell? ⟨w.heap.size, 2, none⟩ = some (.int .i64 m.tt) := blkC h4.out.blk 2
  have u3 : W4.cell? ⟨w.heap.size, 3, none⟩ = some (.int .i64 m.ro) := blkC h4.out.blk 3
  have u4 : W4.cell? ⟨w.heap.size, 4, none⟩ = some (.int .i64 m.no) := blkC h4.out.blk 4
  have u5 : W4.cell? ⟨w.heap.size, 5, none⟩ = some (.int .i64 m.sl) := blkC h4.out.blk 5
  have u6 : W4.cell? ⟨w.heap.size, 6, none⟩ = some (.int .i64 m.nu) := blkC h4.out.blk 6
  have u7 : W4.cell? ⟨w.heap.size, 7, none⟩ = some (.string (sOf m.v)) := blkC h4.out.blk 7
  have u8 : W4.cell? ⟨w.heap.size, 8, none⟩ = some (.slice A n c) := blkC h4.out.blk 8
  have lU := blkX h4.out.blk
  go_wp2_with (fail)
  refine (RWB.uint h4.out _ m.no.toNat (by first | rfl | (simp [IntKind.wrap, IntKind.signed, IntKind.bits]; omega)) (by omega) (by omega)).mono ?_
  rintro e W5 ⟨rfl, h5⟩
  replace h5 := Lib.hid (h5.cast hz4.out.symm)
  clear u0 u1 u2 u3 u4 u5 u6 u7 u8 lU
  clear h4
  have u0 : W5.cell? ⟨w.heap.size, 0, none⟩ = some (.int .i64 m.k) := blkC h5.out.blk 0
  have u1 : W5.cell? ⟨w.heap.size, 1, none⟩ = some (.int .i64 m.fr) := blkC h5.out.blk 1
  have u2 : W5.cell? ⟨w.heap.size, 2, none⟩ = some (.int .i64 m.tt) := blkC h5.out.blk 2
  have u3 : W5.cell? ⟨w.heap.size, 3, none⟩ = some (.int .i64 m.ro) := blkC h5.out.blk 3
  have u4 : W5.cell? ⟨w.heap.size, 4, none⟩ = some (.int .i64 m.no) := blkC h5.out.blk 4
  have u5 : W5.cell? ⟨w.heap.size, 5, none⟩ = some (.int .i64 m.sl) := blkC h5.out.blk 5
  have u6 : W5.cell? ⟨w.heap.size, 6, none⟩ = some (.int .i64 m.nu) := blkC h5.out.blk 6
  have u7 : W5.cell? ⟨w.heap.size, 7, none⟩ = some (.string (sOf m.v)) := blkC h5.out.blk 7
  have u8 : W5.cell? ⟨w.heap.size, 8, none⟩ = some (.slice A n c) := blkC h5.out.blk 8
  have lU := blkX h5.out.blk
  go_wp2_with (fail)
  refine (RWB.uint h5.out _ m.sl.toNat (by first | rfl | (simp [IntKind.wrap, IntKind.signed, IntKind.bits]; omega)) (by omega) (by omega)).mono ?_
  rintro e W6 ⟨rfl, h6⟩
  replace h6 := Lib.hid (h6.cast hz5.out.symm)
  clear u0 u1 u2 u3 u4 u5 u6 u7 u8 lU
  clear h5
  have u0 : W6.cell? ⟨w.heap.size, 0, none⟩ = some (.int .i64 m.k) := blkC h6.out.blk 0
  have u1 : W6.cell? ⟨w.heap.size, 1, none⟩ = some (.int .i64 m.fr) := blkC h6.out.blk 1
  have u2 : W6.cell? ⟨w.heap.size, 2, none⟩ = some (.int .i64 m.tt) := blkC h6.out.blk 2
  have u3 : W6.cell? ⟨w.heap.size, 3, none⟩ = some (.int .i64 m.ro) := blkC h6.out.blk 3
  have u4 : W6.cell? ⟨w.heap.size, 4, none⟩ = some (.int .i64 m.no) := blkC h6.out.blk 4
  have u5 : W6.cell? ⟨w.heap.size, 5, none⟩ = some (.int .i64 m.sl) := blkC h6.out.blk 5
  have u6 : W6.cell? ⟨w.heap.size, 6, none⟩ = some (.int .i64 m.nu) := blkC h6.out.blk 6
  have u7 : W6.cell? ⟨w.heap.size, 7, none⟩ = some (.string (sOf m.v)) := blkC h6.out.blk 7
  have u8 : W6.cell? ⟨w.heap.size, 8, none⟩ = some (.slice A n c) := blkC h6.out.blk 8
  have lU := blkX h6.out.blk
  go_wp2_with (fail)
  refine (RWB.text h6.out m.v (by omega) (by omega)).mono ?_
  rintro e W7 ⟨rfl, h7⟩
  replace h7 := Lib.hid (h7.cast hz6.out.symm)
  clear u0 u1 u2 u3 u4 u5 u6 u7 u8 lU
  clear h6
  have u0 : W7.cell? ⟨w.heap.size, 0, none⟩ = some (.int .i64 m.k) := blkC h7.out.blk 0
  have u1 : W7.cell? ⟨w.heap.size, 1, none⟩ = some (.int .i64 m.fr) := blkC h7.out.blk 1
  have u2 : W7.cell? ⟨w.heap.size, 2, none⟩ = some (.int .i64 m.tt) := blkC h7.out.blk 2
  have u3 : W7.cell? ⟨w.heap.size, 3, none⟩ = some (.int .i64 m.ro) := blkC h7.out.blk 3
  have u4 : W7.cell? ⟨w.heap.size, 4, none⟩ = some (.int .i64 m.no) := blkC h7.out.blk 4
  have u5 : W7.cell? ⟨w.heap.size, 5, none⟩ = some (.int .i64 m.sl) := blkC h7.out.blk 5
  have u6 : W7.cell? ⟨w.heap.size, 6, none⟩ = some (.int .i64 m.nu) := blkC h7.out.blk 6
  have u7 : W7.cell? ⟨w.heap.size, 7, none⟩ = some (.string (sOf m.v)) := blkC h7.out.blk 7
  have u8 : W7.cell? ⟨w.heap.size, 8, none⟩ = some (.slice A n c) := blkC h7.out.blk 8
  have lU := blkX h7.out.blk
  go_wp2_with (fail)
  go_loopw [9] (fun i wr => ∃ k : Nat, k ≤ n ∧ i = .int .i64 k ∧ RW w (w.heap.size + 1) [(w.heap.size, #[.int .i64 m.k, .int .i64 m.fr, .int .i64 m.tt, .int .i64 m.ro, .int .i64 m.no, .int .i64 m.sl, .int .i64 m.nu, .string (sOf m.v), .slice A n c], 28)] (z6 ++ bEnts (m.l.take k)) wr) (fun i _ => n - (intOf i).toNat)
  case atStart => exact ⟨0, by omega, rfl, h7.out.cast (by simp [bEnts])⟩
  case round =>
    revert wr
    intro Y hrel
    obtain ⟨k, hk, rfl, h3⟩ := hrel
    clear u0 u1 u2 u3 u4 u5 u6 u7 u8 lU h7
    have z8 : Y.cell? ⟨w.heap.size, 8, none⟩ = some (.slice A n c) := blkC h3.blk 8
    have lU := blkX h3.blk
    by_cases hlt : k < n
    · obtain ⟨b, o, x, rfl, hbl, hx, c0, c1, c2, c3⟩ := ES.at_ hE.out hlt
      obtain ⟨g1, g2, g3, g4⟩ := hf.out.l x (List.mem_of_getElem? hx)
      have hsn := bEnts_snoc hx
      have hlen := bEnts_len (l := m.l.take k) fun y hy => hf.out.l y (List.mem_of_mem_take hy)
      rw [List.length_take] at hlen
      have i0 := enc_len (n := x.sl.toNat) (by omega)
      have i1 := enc_len (n := x.ro.toNat) (by omega)
      have i2 := enc_len (n := x.no.toNat) (by omega)
      have i3 := enc_len (n := x.v.length) (by omega)
      have k0 : (0 : Int) ≤ k := by omega
      have k1 : (k : Int) < (n : Int) := by omega
      obtain ⟨y0, hy0⟩ : ∃ y, y = z6 ++ bEnts (m.l.take k) := ⟨_, rfl⟩
      have M0 : y0.length ≤ 800000000 := by rw [hy0]; simp only [List.length_append]; omega
      rw [← hy0] at h3
      obtain ⟨y1, hy1⟩ : ∃ y, y = y0 ++ enc x.sl.toNat := ⟨_, rfl⟩
      have M1 : y1.length ≤ 800070000 := by rw [hy1]; simp only [List.length_append]; omega
      obtain ⟨y2, hy2⟩ : ∃ y, y = y1 ++ enc x.ro.toNat := ⟨_, rfl⟩
      have M2 : y2.length ≤ 800140000 := by rw [hy2]; simp only [List.length_append]; omega
      obtain ⟨y3, hy3⟩ : ∃ y, y = y2 ++ enc x.no.toNat := ⟨_, rfl⟩
      have M3 : y3.length ≤ 800210000 := by rw [hy3]; simp only [List.length_append]; omega
      obtain ⟨y4, hy4⟩ : ∃ y, y = y3 ++ (enc x.v.length ++ x.v) := ⟨_, rfl⟩
      have M4 : y4.length ≤ 800280000 := by rw [hy4]; simp only [List.length_append]; omega
      have hout : y4 = z6 ++ bEnts (m.l.take (k + 1)) := by rw [hsn, hy4, hy3, hy2, hy1, hy0]; simp only [bEnt, List.append_assoc]
      replace hout := Lib.hid hout; replace hy0 := Lib.hid hy0; replace hy1 := Lib.hid hy1; replace hy2 := Lib.hid hy2; replace hy3 := Lib.hid hy3; replace hy4 := Lib.hid hy4; replace hsn := Lib.hid hsn; replace hlen := Lib.hid hlen; replace c0 := Lib.hid c0; replace c1 := Lib.hid c1; replace c2 := Lib.hid c2; replace c3 := Lib.hid c3
      clear hx
      replace h3 := Lib.hid h3
      have s0 := (h3.out.bel.cell (p := ⟨b, o + k * 4, none⟩) hbl).trans c0.out
      have s1 := (h3.out.bel.cell (p := ⟨b, o + k * 4 + 1, none⟩) hbl).trans c1.out
      have s2 := (h3.out.bel.cell (p := ⟨b, o + k * 4 + 2, none⟩) hbl).trans c2.out
      have s3 := (h3.out.bel.cell (p := ⟨b, o + k * 4 + 3, none⟩) hbl).trans c3.out
      go_wp2_with (fail)
      refine (RWB.uint h3.out _ x.sl.toNat (by first | rfl | (simp [IntKind.wrap, IntKind.signed, IntKind.bits]; omega)) (by omega) (by omega)).mono ?_
      rintro e Y1 ⟨rfl, h40⟩
      replace h40 := Lib.hid (h40.cast hy1.out.symm)
      clear s0 s1 s2 s3 z8 lU h3
      have z8 : Y1.cell? ⟨w.heap.size, 8, none⟩ = some (.slice (some ⟨b, o, none⟩) n c) := blkC h40.out.blk 8
      have lU := blkX h40.out.blk
      have s0 := (h40.out.bel.cell (p := ⟨b, o + k * 4, none⟩) hbl).trans c0.out
      have s1 := (h40.out.bel.cell (p := ⟨b, o + k * 4 + 1, none⟩) hbl).trans c1.out
      have s2 := (h40.out.bel.cell (p := ⟨b, o + k * 4 + 2, none⟩) hbl).trans c2.out
      have s3 := (h40.out.bel.cell (p := ⟨b, o + k * 4 + 3, none⟩) hbl).trans c3.out
      go_wp2_with (fail)
      refine (RWB.uint h40.out _ x.ro.toNat (by first | rfl | (simp [IntKind.wrap, IntKind.signed, IntKind.bits]; omega)) (by omega) (by omega)).mono ?_
      rintro e Y2 ⟨rfl, h41⟩
      replace h41 := Lib.hid (h41.cast hy2.out.symm)
      clear s0 s1 s2 s3 z8 lU h40
      have z8 : Y2.cell? ⟨w.heap.size, 8, none⟩ = some (.slice (some ⟨b, o, none⟩) n c) := blkC h41.out.blk 8
      have lU := blkX h41.out.blk
      have s0 := (h41.out.bel.cell (p := ⟨b, o + k * 4, none⟩) hbl).trans c0.out
      have s1 := (h41.out.bel.cell (p := ⟨b, o + k * 4 + 1, none⟩) hbl).trans c1.out
      have s2 := (h41.out.bel.cell (p := ⟨b, o + k * 4 + 2, none⟩) hbl).trans c2.out
      have s3 := (h41.out.bel.cell (p := ⟨b, o + k * 4 + 3, none⟩) hbl).trans c3.out
      go_wp2_with (fail)
      refine (RWB.uint h41.out _ x.no.toNat (by first | rfl | (simp [IntKind.wrap, IntKind.signed, IntKind.bits]; omega)) (by omega) (by omega)).mono ?_
      rintro e Y3 ⟨rfl, h42⟩
      replace h42 := Lib.hid (h42.cast hy3.out.symm)
      clear s0 s1 s2 s3 z8 lU h41
      have z8 : Y3.cell? ⟨w.heap.size, 8, none⟩ = some (.slice (some ⟨b, o, none⟩) n c) := blkC h42.out.blk 8
      have lU := blkX h42.out.blk
      have s0 := (h42.out.bel.cell (p := ⟨b, o + k * 4, none⟩) hbl).trans c0.out
      have s1 := (h42.out.bel.cell (p := ⟨b, o + k * 4 + 1, none⟩) hbl).trans c1.out
      have s2 := (h42.out.bel.cell (p := ⟨b, o + k * 4 + 2, none⟩) hbl).trans c2.out
      have s3 := (h42.out.bel.cell (p := ⟨b, o + k * 4 + 3, none⟩) hbl).trans c3.out
      go_wp2_with (fail)
      refine (RWB.text h42.out x.v (by omega) (by omega)).mono ?_
      rintro e Y4 ⟨rfl, h43⟩
      replace h43 := Lib.hid (h43.cast hy4.out.symm)
      clear s0 s1 s2 s3 z8 lU h42
      go_wp2_with (fail)
      exact ⟨⟨k + 1, by omega, by go_num, h43.out.cast hout.out⟩, by simp [intOf]; omega⟩
    · obtain rfl : k = n := by omega
      have hft : m.l.take k = m.l := by rw [hN.out, List.take_length]
      rw [hft, ← hfin.out] at h3
      have hk1 : ¬ (k : Int) < (k : Int) := by omega
      have Lf : (bytesM m).length ≤ 800000000 := by rw [hfin.out, List.length_append]; have := bEnts_len (l := m.l) hf.out.l; have := hN.out; omega
      obtain ⟨A1, c1, hi, -⟩ := h3.ex
      have hby := rBytes_any (w.heap.size + 1) A1 c1 (bytesM m) Y hi (by omega) (by omega)
      have bel := Lib.hid h3.bel
      replace hby := Lib.hid hby
      clear hi
      replace h3 := Lib.hid h3
      go_wp2_with (fail)
      refine hby.out.mono ?_
      rintro e w7 ⟨A7, c7, rfl, o7, b7⟩
      have hfn : IsBytes w A7 c7 (bytesM m) w7 := ⟨o7.mono bel.out.size, bel.out.trans (b7.mono bel.out.size)⟩
      replace hfn := Lib.hid hfn
      clear o7 b7
      go_wp2_with (fail)
      go_ret
      exact ⟨A7, c7, rfl, hfn.out⟩
set_option maxHeartbeats 32000000 in
theorem rwrite_FTFTF (m : Mg) (A : Option Addr) (c : Nat) (w : World) (hf : FitM m) (hE : ES w A m.l.length m.l) (hb : uB m.k = false) (hs : uS m.k = true) (hn : uN m.k = false) (hv : uV m.k = true) (hl : uL m.k = false) (hnil : m.l = []) :
    Calls Tryz.prog 47 #[.agg #[.int .i64 m.k, .int .i64 m.fr, .int .i64 m.tt, .int .i64 m.ro, .int .i64 m.no, .int .i64 m.sl, .int .i64 m.nu, .string (sOf m.v), .slice A m.l.length c]] w fun e w' => ∃ A' c', e = .returned (.slice A' (bytesM m).length c') ∧ IsBytes w A' c' (bytesM m) w' := by
  have hd := hf.hd
  simp only [headOK, decide_eq_true_eq] at hd
  obtain ⟨d1, d2, d3, d4, d5, d6, d7⟩ := hd
  obtain ⟨⟨f0, f1⟩, ⟨f2, f3⟩⟩ := hf.b; obtain ⟨f4, f5⟩ := hf.s; obtain ⟨f6, f7⟩ := hf.n; have f8 := hf.v; have f9 := hf.ln
  have ek := enc_len (n := m.k.toNat) (by omega)
  have efr := enc_len (n := m.fr.toNat) (by omega)
  have ett := enc_len (n := m.tt.toNat) (by omega)
  have ero := enc_len (n := m.ro.toNat) (by omega)
  have eno := enc_len (n := m.no.toNat) (by omega)
  have esl := enc_len (n := m.sl.toNat) (by omega)
  have enu := enc_len (n := m.nu.toNat) (by omega)
  have ev := enc_len (n := m.v.length) (by omega)
  have en := enc_len (n := m.l.length) (by omega)
  obtain ⟨n, hN⟩ : ∃ n, n = m.l.length := ⟨_, rfl⟩
  rw [← hN] at hE en f9 ⊢
  obtain ⟨z0, hz0⟩ : ∃ z, z = ([] : List UInt8) ++ enc m.k.toNat := ⟨_, rfl⟩
  have L0 : z0.length ≤ 10 := by rw [hz0]; simpa using ek
  obtain ⟨z1, hz1⟩ : ∃ z, z = z0 ++ enc m.fr.toNat := ⟨_, rfl⟩
  have L1 : z1.length ≤ 20 := by rw [hz1]; simp only [List.length_append]; omega
  obtain ⟨z2, hz2⟩ : ∃ z, z = z1 ++ enc m.tt.toNat := ⟨_, rfl⟩
  have L2 : z2.length ≤ 30 := by rw [hz2]; simp only [List.length_append]; omega
  obtain ⟨z3, hz3⟩ : ∃ z, z = z2 ++ enc m.sl.toNat := ⟨_, rfl⟩
  have L3 : z3.length ≤ 40 := by rw [hz3]; simp only [List.length_append]; omega
  obtain ⟨z4, hz4⟩ : ∃ z, z = z3 ++ (enc m.v.length ++ m.v) := ⟨_, rfl⟩
  have L4 : z4.length ≤ 70040 := by rw [hz4]; simp only [List.length_append]; omega
  have hfin : bytesM m = z4 ++ bEnts m.l := by
    have q1 : bB m = [] := by unfold bB; rw [hb]; rfl
    have q2 : bS m = enc m.sl.toNat := by unfold bS; rw [hs]; rfl
    have q3 : bN m = [] := by unfold bN; rw [hn]; rfl
    have q4 : bV m = enc m.v.length ++ m.v := by unfold bV; rw [hv]; rfl
    have q5 : bL m = bEnts m.l := by unfold bL; rw [hl]; rw [hnil]; rfl
    unfold bytesM bHead
    rw [q1, q2, q3, q4, q5, hz4, hz3, hz2, hz1, hz0]
    simp only [List.append_assoc, List.nil_append, List.append_nil]
  replace hz0 := Lib.hid hz0
  replace hz1 := Lib.hid hz1
  replace hz2 := Lib.hid hz2
  replace hz3 := Lib.hid hz3
  replace hz4 := Lib.hid hz4
  have us := fun W => uses_any m.k ⟨d1, d2⟩ W
  simp only [hb, hs, hn, hv, hl] at us
  replace us := Lib.hid us
  have h0 : RW w (w.heap.size + 1) [(w.heap.size, #[.int .i64 m.k, .int .i64 m.fr, .int .i64 m.tt, .int .i64 m.ro, .int .i64 m.no, .int .i64 m.sl, .int .i64 m.nu, .string (sOf m.v), .slice A n c], 28)] [] ((w.alloc (.cells #[.int .i64 m.k, .int .i64 m.fr, .int .i64 m.tt, .int .i64 m.ro, .int .i64 m.no, .int .i64 m.sl, .int .i64 m.nu, .string (sOf m.v), .slice A n c] 28)).alloc (.cells #[.bool true, .slice none 0 0] 133)) := by
    have b2 : Below w.heap.size w (w.alloc (.cells #[.int .i64 m.k, .int .i64 m.fr, .int .i64 m.tt, .int .i64 m.ro, .int .i64 m.no, .int .i64 m.sl, .int .i64 m.nu, .string (sOf m.v), .slice A n c] 28)) := (Below.refl _ w).alloc (Nat.le_refl _) _
    refine ⟨by omega, b2.alloc (by simp) _, ⟨none, 0, ⟨hpNewAt _ (by simp), World.ownsRow_nil _ _ _ _⟩, fun k hk => by cases hk⟩, fun x hx => ?_⟩
    simp only [List.mem_cons, List.not_mem_nil, or_false] at hx
    subst hx
    exact ⟨(hpOld _ (by simp)).trans (hpNew _ _), (show 28 ≠ 5 from by decide), by simp⟩
  replace h0 := Lib.hid h0; replace hE := Lib.hid hE; replace hfin := Lib.hid hfin; replace hN := Lib.hid hN; replace hf := Lib.hid hf; replace hnil := Lib.hid hnil
  replace hb := Lib.hid hb; replace hs := Lib.hid hs; replace hn := Lib.hid hn; replace hv := Lib.hid hv; replace hl := Lib.hid hl
  clear ek efr ett ero eno esl enu ev en
  go_enter Tryz.func47, Tryz.ntmps47
  go_wp2_with (fail)
  refine (rNew_any _).mono ?_
  rintro e w3 ⟨rfl, rfl⟩
  obtain ⟨W0, hW0⟩ : ∃ W, W = ((w.alloc (.cells #[.int .i64 m.k, .int .i64 m.fr, .int .i64 m.tt, .int .i64 m.ro, .int .i64 m.no, .int .i64 m.sl, .int .i64 m.nu, .string (sOf m.v), .slice A n c] 28)).alloc (.cells #[.bool true, .slice none 0 0] 133)) := ⟨_, rfl⟩
  rw [← hW0] at h0
  skip
  have u0 : W0.cell? ⟨w.heap.size, 0, none⟩ = some (.int .i64 m.k) := blkC h0.out.blk 0
  have u1 : W0.cell? ⟨w.heap.size, 1, none⟩ = some (.int .i64 m.fr) := blkC h0.out.blk 1
  have u2 : W0.cell? ⟨w.heap.size, 2, none⟩ = some (.int .i64 m.tt) := blkC h0.out.blk 2
  have u3 : W0.cell? ⟨w.heap.size, 3, none⟩ = some (.int .i64 m.ro) := blkC h0.out.blk 3
  have u4 : W0.cell? ⟨w.heap.size, 4, none⟩ = some (.int .i64 m.no) := blkC h0.out.blk 4
  have u5 : W0.cell? ⟨w.heap.size, 5, none⟩ = some (.int .i64 m.sl) := blkC h0.out.blk 5
  have u6 : W0.cell? ⟨w.heap.size, 6, none⟩ = some (.int .i64 m.nu) := blkC h0.out.blk 6
  have u7 : W0.cell? ⟨w.heap.size, 7, none⟩ = some (.string (sOf m.v)) := blkC h0.out.blk 7
  have u8 : W0.cell? ⟨w.heap.size, 8, none⟩ = some (.slice A n c) := blkC h0.out.blk 8
  have lU := blkX h0.out.blk
  rw [← hW0]
  clear hW0
  go_wp2_with (fail)
  refine (us.out _).mono ?_
  rintro e w4 ⟨rfl, rfl⟩
  clear us
  go_wp2_with (fail)
  refine (RWB.uint h0.out _ m.k.toNat (by first | rfl | (simp [IntKind.wrap, IntKind.signed, IntKind.bits]; omega)) (by omega) (by simp)).mono ?_
  rintro e W1 ⟨rfl, h1⟩
  replace h1 := Lib.hid (h1.cast hz0.out.symm)
  clear u0 u1 u2 u3 u4 u5 u6 u7 u8 lU
  clear h0
  have u0 : W1.cell? ⟨w.heap.size, 0, none⟩ = some (.int .i64 m.k) := blkC h1.out.blk 0
  have u1 : W1.cell? ⟨w.heap.size, 1, none⟩ = some (.int .i64 m.fr) := blkC h1.out.blk 1
  have u2 : W1.cell? ⟨w.heap.size, 2, none⟩ = some (.int .i64 m.tt) := blkC h1.out.blk 2
  have u3 : W1.cell? ⟨w.heap.size, 3, none⟩ = some (.int .i64 m.ro) := blkC h1.out.blk 3
  have u4 : W1.cell? ⟨w.heap.size, 4, none⟩ = some (.int .i64 m.no) := blkC h1.out.blk 4
  have u5 : W1.cell? ⟨w.heap.size, 5, none⟩ = some (.int .i64 m.sl) := blkC h1.out.blk 5
  have u6 : W1.cell? ⟨w.heap.size, 6, none⟩ = some (.int .i64 m.nu) := blkC h1.out.blk 6
  have u7 : W1.cell? ⟨w.heap.size, 7, none⟩ = some (.string (sOf m.v)) := blkC h1.out.blk 7
  have u8 : W1.cell? ⟨w.heap.size, 8, none⟩ = some (.slice A n c) := blkC h1.out.blk 8
  have lU := blkX h1.out.blk
  go_wp2_with (fail)
  refine (RWB.uint h1.out _ m.fr.toNat (by first | rfl | (simp [IntKind.wrap, IntKind.signed, IntKind.bits]; omega)) (by omega) (by omega)).mono ?_
  rintro e W2 ⟨rfl, h2⟩
  replace h2 := Lib.hid (h2.cast hz1.out.symm)
  clear u0 u1 u2 u3 u4 u5 u6 u7 u8 lU
  clear h1
  have u0 : W2.cell? ⟨w.heap.size, 0, none⟩ = some (.int .i64 m.k) := blkC h2.out.blk 0
  have u1 : W2.cell? ⟨w.heap.size, 1, none⟩ = some (.int .i64 m.fr) := blkC h2.out.blk 1
  have u2 : W2.cell? ⟨w.heap.size, 2, none⟩ = some (.int .i64 m.tt) := blkC h2.out.blk 2
  have u3 : W2.cell? ⟨w.heap.size, 3, none⟩ = some (.int .i64 m.ro) := blkC h2.out.blk 3
  have u4 : W2.cell? ⟨w.heap.size, 4, none⟩ = some (.int .i64 m.no) := blkC h2.out.blk 4
  have u5 : W2.cell? ⟨w.heap.size, 5, none⟩ = some (.int .i64 m.sl) := blkC h2.out.blk 5
  have u6 : W2.cell? ⟨w.heap.size, 6, none⟩ = some (.int .i64 m.nu) := blkC h2.out.blk 6
  have u7 : W2.cell? ⟨w.heap.size, 7, none⟩ = some (.string (sOf m.v)) := blkC h2.out.blk 7
  have u8 : W2.cell? ⟨w.heap.size, 8, none⟩ = some (.slice A n c) := blkC h2.out.blk 8
  have lU := blkX h2.out.blk
  go_wp2_with (fail)
  refine (RWB.uint h2.out _ m.tt.toNat (by first | rfl | (simp [IntKind.wrap, IntKind.signed, IntKind.bits]; omega)) (by omega) (by omega)).mono ?_
  rintro e W3 ⟨rfl, h3⟩
  replace h3 := Lib.hid (h3.cast hz2.out.symm)
  clear u0 u1 u2 u3 u4 u5 u6 u7 u8 lU
  clear h2
  have u0 : W3.cell? ⟨w.heap.size, 0, none⟩ = some (.int .i64 m.k) := blkC h3.out.blk 0
  have u1 : W3.cell? ⟨w.heap.size, 1, none⟩ = some (.int .i64 m.fr) := blkC h3.out.blk 1
  have u2 : W3.cell? ⟨w.heap.size, 2, none⟩ = some (.int .i64 m.tt) := blkC h3.out.blk 2
  have u3 : W3.cell? ⟨w.heap.size, 3, none⟩ = some (.int .i64 m.ro) := blkC h3.out.blk 3
  have u4 : W3.cell? ⟨w.heap.size, 4, none⟩ = some (.int .i64 m.no) := blkC h3.out.blk 4
  have u5 : W3.cell? ⟨w.heap.size, 5, none⟩ = some (.int .i64 m.sl) := blkC h3.out.blk 5
  have u6 : W3.cell? ⟨w.heap.size, 6, none⟩ = some (.int .i64 m.nu) := blkC h3.out.blk 6
  have u7 : W3.cell? ⟨w.heap.size, 7, none⟩ = some (.string (sOf m.v)) := blkC h3.out.blk 7
  have u8 : W3.cell? ⟨w.heap.size, 8, none⟩ = some (.slice A n c) := blkC h3.out.blk 8
  have lU := blkX h3.out.blk
  go_wp2_with (fail)
  refine (RWB.uint h3.out _ m.sl.toNat (by first | rfl | (simp [IntKind.wrap, IntKind.signed, IntKind.bits]; omega)) (by omega) (by omega)).mono ?_
  rintro e W4 ⟨rfl, h4⟩
  replace h4 := Lib.hid (h4.cast hz3.out.symm)
  clear u0 u1 u2 u3 u4 u5 u6 u7 u8 lU
  clear h3
  have u0 : W4.cell? ⟨w.heap.size, 0, none⟩ = some (.int .i64 m.k) := blkC h4.out.blk 0
  have u1 : W4.cell? ⟨w.heap.size, 1, none⟩ = some (.int .i64 m.fr) := blkC h4.out.blk 1
  have u2 : W4.cell? ⟨w.heap.size, 2, none⟩ = some (.int .i64 m.tt) := blkC h4.out.blk 2
  have u3 : W4.cell? ⟨w.heap.size, 3, none⟩ = some (.int .i64 m.ro) := blkC h4.out.blk 3
  have u4 : W4.cell? ⟨w.heap.size, 4, none⟩ = some (.int .i64 m.no) := blkC h4.out.blk 4
  have u5 : W4.cell? ⟨w.heap.size, 5, none⟩ = some (.int .i64 m.sl) := blkC h4.out.blk 5
  have u6 : W4.cell? ⟨w.heap.size, 6, none⟩ = some (.int .i64 m.nu) := blkC h4.out.blk 6
  have u7 : W4.cell? ⟨w.heap.size, 7, none⟩ = some (.string (sOf m.v)) := blkC h4.out.blk 7
  have u8 : W4.cell? ⟨w.heap.size, 8, none⟩ = some (.slice A n c) := blkC h4.out.blk 8
  have lU := blkX h4.out.blk
  go_wp2_with (fail)
  refine (RWB.text h4.out m.v (by omega) (by omega)).mono ?_
  rintro e W5 ⟨rfl, h5⟩
  replace h5 := Lib.hid (h5.cast hz4.out.symm)
  clear u0 u1 u2 u3 u4 u5 u6 u7 u8 lU
  clear h4
  have u0 : W5.cell? ⟨w.heap.size, 0, none⟩ = some (.int .i64 m.k) := blkC h5.out.blk 0
  have u1 : W5.cell? ⟨w.heap.size, 1, none⟩ = some (.int .i64 m.fr) := blkC h5.out.blk 1
  have u2 : W5.cell? ⟨w.heap.size, 2, none⟩ = some (.int .i64 m.tt) := blkC h5.out.blk 2
  have u3 : W5.cell? ⟨w.heap.size, 3, none⟩ = some (.int .i64 m.ro) := blkC h5.out.blk 3
  have u4 : W5.cell? ⟨w.heap.size, 4, none⟩ = some (.int .i64 m.no) := blkC h5.out.blk 4
  have u5 : W5.cell? ⟨w.heap.size, 5, none⟩ = some (.int .i64 m.sl) := blkC h5.out.blk 5
  have u6 : W5.cell? ⟨w.heap.size, 6, none⟩ = some (.int .i64 m.nu) := blkC h5.out.blk 6
  have u7 : W5.cell? ⟨w.heap.size, 7, none⟩ = some (.string (sOf m.v)) := blkC h5.out.blk 7
  have u8 : W5.cell? ⟨w.heap.size, 8, none⟩ = some (.slice A n c) := blkC h5.out.blk 8
  have lU := blkX h5.out.blk
  go_wp2_with (fail)
  go_loopw [9] (fun i wr => ∃ k : Nat, k ≤ n ∧ i = .int .i64 k ∧ RW w (w.heap.size + 1) [(w.heap.size, #[.int .i64 m.k, .int .i64 m.fr, .int .i64 m.tt, .int .i64 m.ro, .int .i64 m.no, .int .i64 m.sl, .int .i64 m.nu, .string (sOf m.v), .slice A n c], 28)] (z4 ++ bEnts (m.l.take k)) wr) (fun i _ => n - (intOf i).toNat)
  case atStart => exact ⟨0, by omega, rfl, h5.out.cast (by simp [bEnts])⟩
  case round =>
    revert wr
    intro Y hrel
    obtain ⟨k, hk, rfl, h3⟩ := hrel
    clear u0 u1 u2 u3 u4 u5 u6 u7 u8 lU h5
    have z8 : Y.cell? ⟨w.heap.size, 8, none⟩ = some (.slice A n c) := blkC h3.blk 8
    have lU := blkX h3.blk
    by_cases hlt : k < n
    · obtain ⟨b, o, x, rfl, hbl, hx, c0, c1, c2, c3⟩ := ES.at_ hE.out hlt
      obtain ⟨g1, g2, g3, g4⟩ := hf.out.l x (List.mem_of_getElem? hx)
      have hsn := bEnts_snoc hx
      have hlen := bEnts_len (l := m.l.take k) fun y hy => hf.out.l y (List.mem_of_mem_take hy)
      rw [List.length_take] at hlen
      have i0 := enc_len (n := x.sl.toNat) (by omega)
      have i1 := enc_len (n := x.ro.toNat) (by omega)
      have i2 := enc_len (n := x.no.toNat) (by omega)
      have i3 := enc_len (n := x.v.length) (by omega)
      have k0 : (0 : Int) ≤ k := by omega
      have k1 : (k : Int) < (n : Int) := by omega
      obtain ⟨y0, hy0⟩ : ∃ y, y = z4 ++ bEnts (m.l.take k) := ⟨_, rfl⟩
      have M0 : y0.length ≤ 800000000 := by rw [hy0]; simp only [List.length_append]; omega
      rw [← hy0] at h3
      obtain ⟨y1, hy1⟩ : ∃ y, y = y0 ++ enc x.sl.toNat := ⟨_, rfl⟩
      have M1 : y1.length ≤ 800070000 := by rw [hy1]; simp only [List.length_append]; omega
      obtain ⟨y2, hy2⟩ : ∃ y, y = y1 ++ enc x.ro.toNat := ⟨_, rfl⟩
      have M2 : y2.length ≤ 800140000 := by rw [hy2]; simp only [List.length_append]; omega
      obtain ⟨y3, hy3⟩ : ∃ y, y = y2 ++ enc x.no.toNat := ⟨_, rfl⟩
      have M3 : y3.length ≤ 800210000 := by rw [hy3]; simp only [List.length_append]; omega
      obtain ⟨y4, hy4⟩ : ∃ y, y = y3 ++ (enc x.v.length ++ x.v) := ⟨_, rfl⟩
      have M4 : y4.length ≤ 800280000 := by rw [hy4]; simp only [List.length_append]; omega
      have hout : y4 = z4 ++ bEnts (m.l.take (k + 1)) := by rw [hsn, hy4, hy3, hy2, hy1, hy0]; simp only [bEnt, List.append_assoc]
      replace hout := Lib.hid hout; replace hy0 := Lib.hid hy0; replace hy1 := Lib.hid hy1; replace hy2 := Lib.hid hy2; replace hy3 := Lib.hid hy3; replace hy4 := Lib.hid hy4; replace hsn := Lib.hid hsn; replace hlen := Lib.hid hlen; replace c0 := Lib.hid c0; replace c1 := Lib.hid c1; replace c2 := Lib.hid c2; replace c3 := Lib.hid c3
      clear hx
      replace h3 := Lib.hid h3
      have s0 := (h3.out.bel.cell (p := ⟨b, o + k * 4, none⟩) hbl).trans c0.out
      have s1 := (h3.out.bel.cell (p := ⟨b, o + k * 4 + 1, none⟩) hbl).trans c1.out
      have s2 := (h3.out.bel.cell (p := ⟨b, o + k * 4 + 2, none⟩) hbl).trans c2.out
      have s3 := (h3.out.bel.cell (p := ⟨b, o + k * 4 + 3, none⟩) hbl).trans c3.out
      go_wp2_with (fail)
      refine (RWB.uint h3.out _ x.sl.toNat (by first | rfl | (simp [IntKind.wrap, IntKind.signed, IntKind.bits]; omega)) (by omega) (by omega)).mono ?_
      rintro e Y1 ⟨rfl, h40⟩
      replace h40 := Lib.hid (h40.cast hy1.out.symm)
      clear s0 s1 s2 s3 z8 lU h3
      have z8 : Y1.cell? ⟨w.heap.size, 8, none⟩ = some (.slice (some ⟨b, o, none⟩) n c) := blkC h40.out.blk 8
      have lU := blkX h40.out.blk
      have s0 := (h40.out.bel.cell (p := ⟨b, o + k * 4, none⟩) hbl).trans c0.out
      have s1 := (h40.out.bel.cell (p := ⟨b, o + k * 4 + 1, none⟩) hbl).trans c1.out
      have s2 := (h40.out.bel.cell (p := ⟨b, o + k * 4 + 2, none⟩) hbl).trans c2.out
      have s3 := (h40.out.bel.cell (p := ⟨b, o + k * 4 + 3, none⟩) hbl).trans c3.out
      go_wp2_with (fail)
      refine (RWB.uint h40.out _ x.ro.toNat (by first | rfl | (simp [IntKind.wrap, IntKind.signed, IntKind.bits]; omega)) (by omega) (by omega)).mono ?_
      rintro e Y2 ⟨rfl, h41⟩
      replace h41 := Lib.hid (h41.cast hy2.out.symm)
      clear s0 s1 s2 s3 z8 lU h40
      have z8 : Y2.cell? ⟨w.heap.size, 8, none⟩ = some (.slice (some ⟨b, o, none⟩) n c) := blkC h41.out.blk 8
      have lU := blkX h41.out.blk
      have s0 := (h41.out.bel.cell (p := ⟨b, o + k * 4, none⟩) hbl).trans c0.out
      have s1 := (h41.out.bel.cell (p := ⟨b, o + k * 4 + 1, none⟩) hbl).trans c1.out
      have s2 := (h41.out.bel.cell (p := ⟨b, o + k * 4 + 2, none⟩) hbl).trans c2.out
      have s3 := (h41.out.bel.cell (p := ⟨b, o + k * 4 + 3, none⟩) hbl).trans c3.out
      go_wp2_with (fail)
      refine (RWB.uint h41.out _ x.no.toNat (by first | rfl | (simp [IntKind.wrap, IntKind.signed, IntKind.bits]; omega)) (by omega) (by omega)).mono ?_
      rintro e Y3 ⟨rfl, h42⟩
      replace h42 := Lib.hid (h42.cast hy3.out.symm)
      clear s0 s1 s2 s3 z8 lU h41
      have z8 : Y3.cell? ⟨w.heap.size, 8, none⟩ = some (.slice (some ⟨b, o, none⟩) n c) := blkC h42.out.blk 8
      have lU := blkX h42.out.blk
      have s0 := (h42.out.bel.cell (p := ⟨b, o + k * 4, none⟩) hbl).trans c0.out
      have s1 := (h42.out.bel.cell (p := ⟨b, o + k * 4 + 1, none⟩) hbl).trans c1.out
      have s2 := (h42.out.bel.cell (p := ⟨b, o + k * 4 + 2, none⟩) hbl).trans c2.out
      have s3 := (h42.out.bel.cell (p := ⟨b, o + k * 4 + 3, none⟩) hbl).trans c3.out
      go_wp2_with (fail)
      refine (RWB.text h42.out x.v (by omega) (by omega)).mono ?_
      rintro e Y4 ⟨rfl, h43⟩
      replace h43 := Lib.hid (h43.cast hy4.out.symm)
      clear s0 s1 s2 s3 z8 lU h42
      go_wp2_with (fail)
      exact ⟨⟨k + 1, by omega, by go_num, h43.out.cast hout.out⟩, by simp [intOf]; omega⟩
    · obtain rfl : k = n := by omega
      have hft : m.l.take k = m.l := by rw [hN.out, List.take_length]
      rw [hft, ← hfin.out] at h3
      have hk1 : ¬ (k : Int) < (k : Int) := by omega
      have Lf : (bytesM m).length ≤ 800000000 := by rw [hfin.out, List.length_append]; have := bEnts_len (l := m.l) hf.out.l; have := hN.out; omega
      obtain ⟨A1, c1, hi, -⟩ := h3.ex
      have hby := rBytes_any (w.heap.size + 1) A1 c1 (bytesM m) Y hi (by omega) (by omega)
      have bel := Lib.hid h3.bel
      replace hby := Lib.hid hby
      clear hi
      replace h3 := Lib.hid h3
      go_wp2_with (fail)
      refine hby.out.mono ?_
      rintro e w7 ⟨A7, c7, rfl, o7, b7⟩
      have hfn : IsBytes w A7 c7 (bytesM m) w7 := ⟨o7.mono bel.out.size, bel.out.trans (b7.mono bel.out.size)⟩
      replace hfn := Lib.hid hfn
      clear o7 b7
      go_wp2_with (fail)
      go_ret
      exact ⟨A7, c7, rfl, hfn.out⟩
set_option maxHeartbeats 32000000 in
theorem rwrite_FFTTF (m : Mg) (A : Option Addr) (c : Nat) (w : World) (hf : FitM m) (hE : ES w A m.l.length m.l) (hb : uB m.k = false) (hs : uS m.k = false) (hn : uN m.k = true) (hv : uV m.k = true) (hl : uL m.k = false) (hnil : m.l = []) :
    Calls Tryz.prog 47 #[.agg #[.int .i64 m.k, .int .i64 m.fr, .int .i64 m.tt, .int .i64 m.ro, .int .i64 m.no, .int .i64 m.sl, .int .i64 m.nu, .string (sOf m.v), .slice A m.l.length c]] w fun e w' => ∃ A' c', e = .returned (.slice A' (bytesM m).length c') ∧ IsBytes w A' c' (bytesM m) w' := by
  have hd := hf.hd
  simp only [headOK, decide_eq_true_eq] at hd
  obtain ⟨d1, d2, d3, d4, d5, d6, d7⟩ := hd
  obtain ⟨⟨f0, f1⟩, ⟨f2, f3⟩⟩ := hf.b; obtain ⟨f4, f5⟩ := hf.s; obtain ⟨f6, f7⟩ := hf.n; have f8 := hf.v; have f9 := hf.ln
  have ek := enc_len (n := m.k.toNat) (by omega)
  have efr := enc_len (n := m.fr.toNat) (by omega)
  have ett := enc_len (n := m.tt.toNat) (by omega)
  have ero := enc_len (n := m.ro.toNat) (by omega)
  have eno := enc_len (n := m.no.toNat) (by omega)
  have esl := enc_len (n := m.sl.toNat) (by omega)
  have enu := enc_len (n := m.nu.toNat) (by omega)
  have ev := enc_len (n := m.v.length) (by omega)
  have en := enc_len (n := m.l.length) (by omega)
  obtain ⟨n, hN⟩ : ∃ n, n = m.l.length := ⟨_, rfl⟩
  rw [← hN] at hE en f9 ⊢
  obtain ⟨z0, hz0⟩ : ∃ z, z = ([] : List UInt8) ++ enc m.k.toNat := ⟨_, rfl⟩
  have L0 : z0.length ≤ 10 := by rw [hz0]; simpa using ek
  obtain ⟨z1, hz1⟩ : ∃ z, z = z0 ++ enc m.fr.toNat := ⟨_, rfl⟩
  have L1 : z1.length ≤ 20 := by rw [hz1]; simp only [List.length_append]; omega
  obtain ⟨z2, hz2⟩ : ∃ z, z = z1 ++ enc m.tt.toNat := ⟨_, rfl⟩
  have L2 : z2.length ≤ 30 := by rw [hz2]; simp only [List.length_append]; omega
  obtain ⟨z3, hz3⟩ : ∃ z, z = z2 ++ enc m.nu.toNat := ⟨_, rfl⟩
  have L3 : z3.length ≤ 40 := by rw [hz3]; simp only [List.length_append]; omega
  obtain ⟨z4, hz4⟩ : ∃ z, z = z3 ++ (enc m.v.length ++ m.v) := ⟨_, rfl⟩
  have L4 : z4.length ≤ 70040 := by rw [hz4]; simp only [List.length_append]; omega
  have hfin : bytesM m = z4 ++ bEnts m.l := by
    have q1 : bB m = [] := by unfold bB; rw [hb]; rfl
    have q2 : bS m = [] := by unfold bS; rw [hs]; rfl
    have q3 : bN m = enc m.nu.toNat := by unfold bN; rw [hn]; rfl
    have q4 : bV m = enc m.v.length ++ m.v := by unfold bV; rw [hv]; rfl
    have q5 : bL m = bEnts m.l := by unfold bL; rw [hl]; rw [hnil]; rfl
    unfold bytesM bHead
    rw [q1, q2, q3, q4, q5, hz4, hz3, hz2, hz1, hz0]
    simp only [List.append_assoc, List.nil_append, List.append_nil]
  replace hz0 := Lib.hid hz0
  replace hz1 := Lib.hid hz1
  replace hz2 := Lib.hid hz2
  replace hz3 := Lib.hid hz3
  replace hz4 := Lib.hid hz4
  have us := fun W => uses_any m.k ⟨d1, d2⟩ W
  simp only [hb, hs, hn, hv, hl] at us
  replace us := Lib.hid us
  have h0 : RW w (w.heap.size + 1) [(w.heap.size, #[.int .i64 m.k, .int .i64 m.fr, .int .i64 m.tt, .int .i64 m.ro, .int .i64 m.no, .int .i64 m.sl, .int .i64 m.nu, .string (sOf m.v), .slice A n c], 28)] [] ((w.alloc (.cells #[.int .i64 m.k, .int .i64 m.fr, .int .i64 m.tt, .int .i64 m.ro, .int .i64 m.no, .int .i64 m.sl, .int .i64 m.nu, .string (sOf m.v), .slice A n c] 28)).alloc (.cells #[.bool true, .slice none 0 0] 133)) := by
    have b2 : Below w.heap.size w (w.alloc (.cells #[.int .i64 m.k, .int .i64 m.fr, .int .i64 m.tt, .int .i64 m.ro, .int .i64 m.no, .int .i64 m.sl, .int .i64 m.nu, .string (sOf m.v), .slice A n c] 28)) := (Below.refl _ w).alloc (Nat.le_refl _) _
    refine ⟨by omega, b2.alloc (by simp) _, ⟨none, 0, ⟨hpNewAt _ (by simp), World.ownsRow_nil _ _ _ _⟩, fun k hk => by cases hk⟩, fun x hx => ?_⟩
    simp only [List.mem_cons, List.not_mem_nil, or_false] at hx
    subst hx
    exact ⟨(hpOld _ (by simp)).trans (hpNew _ _), (show 28 ≠ 5 from by decide), by simp⟩
  replace h0 := Lib.hid h0; replace hE := Lib.hid hE; replace hfin := Lib.hid hfin; replace hN := Lib.hid hN; replace hf := Lib.hid hf; replace hnil := Lib.hid hnil
  replace hb := Lib.hid hb; replace hs := Lib.hid hs; replace hn := Lib.hid hn; replace hv := Lib.hid hv; replace hl := Lib.hid hl
  clear ek efr ett ero eno esl enu ev en
  go_enter Tryz.func47, Tryz.ntmps47
  go_wp2_with (fail)
  refine (rNew_any _).mono ?_
  rintro e w3 ⟨rfl, rfl⟩
  obtain ⟨W0, hW0⟩ : ∃ W, W = ((w.alloc (.cells #[.int .i64 m.k, .int .i64 m.fr, .int .i64 m.tt, .int .i64 m.ro, .int .i64 m.no, .int .i64 m.sl, .int .i64 m.nu, .string (sOf m.v), .slice A n c] 28)).alloc (.cells #[.bool true, .slice none 0 0] 133)) := ⟨_, rfl⟩
  rw [← hW0] at h0
  skip
  have u0 : W0.cell? ⟨w.heap.size, 0, none⟩ = some (.int .i64 m.k) := blkC h0.out.blk 0
  have u1 : W0.cell? ⟨w.heap.size, 1, none⟩ = some (.int .i64 m.fr) := blkC h0.out.blk 1
  have u2 : W0.cell? ⟨w.heap.size, 2, none⟩ = some (.int .i64 m.tt) := blkC h0.out.blk 2
  have u3 : W0.cell? ⟨w.heap.size, 3, none⟩ = some (.int .i64 m.ro) := blkC h0.out.blk 3
  have u4 : W0.cell? ⟨w.heap.size, 4, none⟩ = some (.int .i64 m.no) := blkC h0.out.blk 4
  have u5 : W0.cell? ⟨w.heap.size, 5, none⟩ = some (.int .i64 m.sl) := blkC h0.out.blk 5
  have u6 : W0.cell? ⟨w.heap.size, 6, none⟩ = some (.int .i64 m.nu) := blkC h0.out.blk 6
  have u7 : W0.cell? ⟨w.heap.size, 7, none⟩ = some (.string (sOf m.v)) := blkC h0.out.blk 7
  have u8 : W0.cell? ⟨w.heap.size, 8, none⟩ = some (.slice A n c) := blkC h0.out.blk 8
  have lU := blkX h0.out.blk
  rw [← hW0]
  clear hW0
  go_wp2_with (fail)
  refine (us.out _).mono ?_
  rintro e w4 ⟨rfl, rfl⟩
  clear us
  go_wp2_with (fail)
  refine (RWB.uint h0.out _ m.k.toNat (by first | rfl | (simp [IntKind.wrap, IntKind.signed, IntKind.bits]; omega)) (by omega) (by simp)).mono ?_
  rintro e W1 ⟨rfl, h1⟩
  replace h1 := Lib.hid (h1.cast hz0.out.symm)
  clear u0 u1 u2 u3 u4 u5 u6 u7 u8 lU
  clear h0
  have u0 : W1.cell? ⟨w.heap.size, 0, none⟩ = some (.int .i64 m.k) := blkC h1.out.blk 0
  have u1 : W1.cell? ⟨w.heap.size, 1, none⟩ = some (.int .i64 m.fr) := blkC h1.out.blk 1
  have u2 : W1.cell? ⟨w.heap.size, 2, none⟩ = some (.int .i64 m.tt) := blkC h1.out.blk 2
  have u3 : W1.cell? ⟨w.heap.size, 3, none⟩ = some (.int .i64 m.ro) := blkC h1.out.blk 3
  have u4 : W1.cell? ⟨w.heap.size, 4, none⟩ = some (.int .i64 m.no) := blkC h1.out.blk 4
  have u5 : W1.cell? ⟨w.heap.size, 5, none⟩ = some (.int .i64 m.sl) := blkC h1.out.blk 5
  have u6 : W1.cell? ⟨w.heap.size, 6, none⟩ = some (.int .i64 m.nu) := blkC h1.out.blk 6
  have u7 : W1.cell? ⟨w.heap.size, 7, none⟩ = some (.string (sOf m.v)) := blkC h1.out.blk 7
  have u8 : W1.cell? ⟨w.heap.size, 8, none⟩ = some (.slice A n c) := blkC h1.out.blk 8
  have lU := blkX h1.out.blk
  go_wp2_with (fail)
  refine (RWB.uint h1.out _ m.fr.toNat (by first | rfl | (simp [IntKind.wrap, IntKind.signed, IntKind.bits]; omega)) (by omega) (by omega)).mono ?_
  rintro e W2 ⟨rfl, h2⟩
  replace h2 := Lib.hid (h2.cast hz1.out.symm)
  clear u0 u1 u2 u3 u4 u5 u6 u7 u8 lU
  clear h1
  have u0 : W2.cell? ⟨w.heap.size, 0, none⟩ = some (.int .i64 m.k) := blkC h2.out.blk 0
  have u1 : W2.cell? ⟨w.heap.size, 1, none⟩ = some (.int .i64 m.fr) := blkC h2.out.blk 1
  have u2 : W2.cell? ⟨w.heap.size, 2, none⟩ = some (.int .i64 m.tt) := blkC h2.out.blk 2
  have u3 : W2.cell? ⟨w.heap.size, 3, none⟩ = some (.int .i64 m.ro) := blkC h2.out.blk 3
  have u4 : W2.cell? ⟨w.heap.size, 4, none⟩ = some (.int .i64 m.no) := blkC h2.out.blk 4
  have u5 : W2.cell? ⟨w.heap.size, 5, none⟩ = some (.int .i64 m.sl) := blkC h2.out.blk 5
  have u6 : W2.cell? ⟨w.heap.size, 6, none⟩ = some (.int .i64 m.nu) := blkC h2.out.blk 6
  have u7 : W2.cell? ⟨w.heap.size, 7, none⟩ = some (.string (sOf m.v)) := blkC h2.out.blk 7
  have u8 : W2.cell? ⟨w.heap.size, 8, none⟩ = some (.slice A n c) := blkC h2.out.blk 8
  have lU := blkX h2.out.blk
  go_wp2_with (fail)
  refine (RWB.uint h2.out _ m.tt.toNat (by first | rfl | (simp [IntKind.wrap, IntKind.signed, IntKind.bits]; omega)) (by omega) (by omega)).mono ?_
  rintro e W3 ⟨rfl, h3⟩
  replace h3 := Lib.hid (h3.cast hz2.out.symm)
  clear u0 u1 u2 u3 u4 u5 u6 u7 u8 lU
  clear h2
  have u0 : W3.cell? ⟨w.heap.size, 0, none⟩ = some (.int .i64 m.k) := blkC h3.out.blk 0
  have u1 : W3.cell? ⟨w.heap.size, 1, none⟩ = some (.int .i64 m.fr) := blkC h3.out.blk 1
  have u2 : W3.cell? ⟨w.heap.size, 2, none⟩ = some (.int .i64 m.tt) := blkC h3.out.blk 2
  have u3 : W3.cell? ⟨w.heap.size, 3, none⟩ = some (.int .i64 m.ro) := blkC h3.out.blk 3
  have u4 : W3.cell? ⟨w.heap.size, 4, none⟩ = some (.int .i64 m.no) := blkC h3.out.blk 4
  have u5 : W3.cell? ⟨w.heap.size, 5, none⟩ = some (.int .i64 m.sl) := blkC h3.out.blk 5
  have u6 : W3.cell? ⟨w.heap.size, 6, none⟩ = some (.int .i64 m.nu) := blkC h3.out.blk 6
  have u7 : W3.cell? ⟨w.heap.size, 7, none⟩ = some (.string (sOf m.v)) := blkC h3.out.blk 7
  have u8 : W3.cell? ⟨w.heap.size, 8, none⟩ = some (.slice A n c) := blkC h3.out.blk 8
  have lU := blkX h3.out.blk
  go_wp2_with (fail)
  refine (RWB.uint h3.out _ m.nu.toNat (by first | rfl | (simp [IntKind.wrap, IntKind.signed, IntKind.bits]; omega)) (by omega) (by omega)).mono ?_
  rintro e W4 ⟨rfl, h4⟩
  replace h4 := Lib.hid (h4.cast hz3.out.symm)
  clear u0 u1 u2 u3 u4 u5 u6 u7 u8 lU
  clear h3
  have u0 : W4.cell? ⟨w.heap.size, 0, none⟩ = some (.int .i64 m.k) := blkC h4.out.blk 0
  have u1 : W4.cell? ⟨w.heap.size, 1, none⟩ = some (.int .i64 m.fr) := blkC h4.out.blk 1
  have u2 : W4.cell? ⟨w.heap.size, 2, none⟩ = some (.int .i64 m.tt) := blkC h4.out.blk 2
  have u3 : W4.cell? ⟨w.heap.size, 3, none⟩ = some (.int .i64 m.ro) := blkC h4.out.blk 3
  have u4 : W4.cell? ⟨w.heap.size, 4, none⟩ = some (.int .i64 m.no) := blkC h4.out.blk 4
  have u5 : W4.cell? ⟨w.heap.size, 5, none⟩ = some (.int .i64 m.sl) := blkC h4.out.blk 5
  have u6 : W4.cell? ⟨w.heap.size, 6, none⟩ = some (.int .i64 m.nu) := blkC h4.out.blk 6
  have u7 : W4.cell? ⟨w.heap.size, 7, none⟩ = some (.string (sOf m.v)) := blkC h4.out.blk 7
  have u8 : W4.cell? ⟨w.heap.size, 8, none⟩ = some (.slice A n c) := blkC h4.out.blk 8
  have lU := blkX h4.out.blk
  go_wp2_with (fail)
  refine (RWB.text h4.out m.v (by omega) (by omega)).mono ?_
  rintro e W5 ⟨rfl, h5⟩
  replace h5 := Lib.hid (h5.cast hz4.out.symm)
  clear u0 u1 u2 u3 u4 u5 u6 u7 u8 lU
  clear h4
  have u0 : W5.cell? ⟨w.heap.size, 0, none⟩ = some (.int .i64 m.k) := blkC h5.out.blk 0
  have u1 : W5.cell? ⟨w.heap.size, 1, none⟩ = some (.int .i64 m.fr) := blkC h5.out.blk 1
  have u2 : W5.cell? ⟨w.heap.size, 2, none⟩ = some (.int .i64 m.tt) := blkC h5.out.blk 2
  have u3 : W5.cell? ⟨w.heap.size, 3, none⟩ = some (.int .i64 m.ro) := blkC h5.out.blk 3
  have u4 : W5.cell? ⟨w.heap.size, 4, none⟩ = some (.int .i64 m.no) := blkC h5.out.blk 4
  have u5 : W5.cell? ⟨w.heap.size, 5, none⟩ = some (.int .i64 m.sl) := blkC h5.out.blk 5
  have u6 : W5.cell? ⟨w.heap.size, 6, none⟩ = some (.int .i64 m.nu) := blkC h5.out.blk 6
  have u7 : W5.cell? ⟨w.heap.size, 7, none⟩ = some (.string (sOf m.v)) := blkC h5.out.blk 7
  have u8 : W5.cell? ⟨w.heap.size, 8, none⟩ = some (.slice A n c) := blkC h5.out.blk 8
  have lU := blkX h5.out.blk
  go_wp2_with (fail)
  go_loopw [9] (fun i wr => ∃ k : Nat, k ≤ n ∧ i = .int .i64 k ∧ RW w (w.heap.size + 1) [(w.heap.size, #[.int .i64 m.k, .int .i64 m.fr, .int .i64 m.tt, .int .i64 m.ro, .int .i64 m.no, .int .i64 m.sl, .int .i64 m.nu, .string (sOf m.v), .slice A n c], 28)] (z4 ++ bEnts (m.l.take k)) wr) (fun i _ => n - (intOf i).toNat)
  case atStart => exact ⟨0, by omega, rfl, h5.out.cast (by simp [bEnts])⟩
  case round =>
    revert wr
    intro Y hrel
    obtain ⟨k, hk, rfl, h3⟩ := hrel
    clear u0 u1 u2 u3 u4 u5 u6 u7 u8 lU h5
    have z8 : Y.cell? ⟨w.heap.size, 8, none⟩ = some (.slice A n c) := blkC h3.blk 8
    have lU := blkX h3.blk
    by_cases hlt : k < n
    · obtain ⟨b, o, x, rfl, hbl, hx, c0, c1, c2, c3⟩ := ES.at_ hE.out hlt
      obtain ⟨g1, g2, g3, g4⟩ := hf.out.l x (List.mem_of_getElem? hx)
      have hsn := bEnts_snoc hx
      have hlen := bEnts_len (l := m.l.take k) fun y hy => hf.out.l y (List.mem_of_mem_take hy)
      rw [List.length_take] at hlen
      have i0 := enc_len (n := x.sl.toNat) (by omega)
      have i1 := enc_len (n := x.ro.toNat) (by omega)
      have i2 := enc_len (n := x.no.toNat) (by omega)
      have i3 := enc_len (n := x.v.length) (by omega)
      have k0 : (0 : Int) ≤ k := by omega
      have k1 : (k : Int) < (n : Int) := by omega
      obtain ⟨y0, hy0⟩ : ∃ y, y = z4 ++ bEnts (m.l.take k) := ⟨_, rfl⟩
      have M0 : y0.length ≤ 800000000 := by rw [hy0]; simp only [List.length_append]; omega
      rw [← hy0] at h3
      obtain ⟨y1, hy1⟩ : ∃ y, y = y0 ++ enc x.sl.toNat := ⟨_, rfl⟩
      have M1 : y1.length ≤ 800070000 := by rw [hy1]; simp only [List.length_append]; omega
      obtain ⟨y2, hy2⟩ : ∃ y, y = y1 ++ enc x.ro.toNat := ⟨_, rfl⟩
      have M2 : y2.length ≤ 800140000 := by rw [hy2]; simp only [List.length_append]; omega
      obtain ⟨y3, hy3⟩ : ∃ y, y = y2 ++ enc x.no.toNat := ⟨_, rfl⟩
      have M3 : y3.length ≤ 800210000 := by rw [hy3]; simp only [List.length_append]; omega
      obtain ⟨y4, hy4⟩ : ∃ y, y = y3 ++ (enc x.v.length ++ x.v) := ⟨_, rfl⟩
      have M4 : y4.length ≤ 800280000 := by rw [hy4]; simp only [List.length_append]; omega
      have hout : y4 = z4 ++ bEnts (m.l.take (k + 1)) := by rw [hsn, hy4, hy3, hy2, hy1, hy0]; simp only [bEnt, List.append_assoc]
      replace hout := Lib.hid hout; replace hy0 := Lib.hid hy0; replace hy1 := Lib.hid hy1; replace hy2 := Lib.hid hy2; replace hy3 := Lib.hid hy3; replace hy4 := Lib.hid hy4; replace hsn := Lib.hid hsn; replace hlen := Lib.hid hlen; replace c0 := Lib.hid c0; replace c1 := Lib.hid c1; replace c2 := Lib.hid c2; replace c3 := Lib.hid c3
      clear hx
      replace h3 := Lib.hid h3
      have s0 := (h3.out.bel.cell (p := ⟨b, o + k * 4, none⟩) hbl).trans c0.out
      have s1 := (h3.out.bel.cell (p := ⟨b, o + k * 4 + 1, none⟩) hbl).trans c1.out
      have s2 := (h3.out.bel.cell (p := ⟨b, o + k * 4 + 2, none⟩) hbl).trans c2.out
      have s3 := (h3.out.bel.cell (p := ⟨b, o + k * 4 + 3, none⟩) hbl).trans c3.out
      go_wp2_with (fail)
      refine (RWB.uint h3.out _ x.sl.toNat (by first | rfl | (simp [IntKind.wrap, IntKind.signed, IntKind.bits]; omega)) (by omega) (by omega)).mono ?_
      rintro e Y1 ⟨rfl, h40⟩
      replace h40 := Lib.hid (h40.cast hy1.out.symm)
      clear s0 s1 s2 s3 z8 lU h3
      have z8 : Y1.cell? ⟨w.heap.size, 8, none⟩ = some (.slice (some ⟨b, o, none⟩) n c) := blkC h40.out.blk 8
      have lU := blkX h40.out.blk
      have s0 := (h40.out.bel.cell (p := ⟨b, o + k * 4, none⟩) hbl).trans c0.out
      have s1 := (h40.out.bel.cell (p := ⟨b, o + k * 4 + 1, none⟩) hbl).trans c1.out
      have s2 := (h40.out.bel.cell (p := ⟨b, o + k * 4 + 2, none⟩) hbl).trans c2.out
      have s3 := (h40.out.bel.cell (p := ⟨b, o + k * 4 + 3, none⟩) hbl).trans c3.out
      go_wp2_with (fail)
      refine (RWB.uint h40.out _ x.ro.toNat (by first | rfl | (simp [IntKind.wrap, IntKind.signed, IntKind.bits]; omega)) (by omega) (by omega)).mono ?_
      rintro e Y2 ⟨rfl, h41⟩
      replace h41 := Lib.hid (h41.cast hy2.out.symm)
      clear s0 s1 s2 s3 z8 lU h40
      have z8 : Y2.cell? ⟨w.heap.size, 8, none⟩ = some (.slice (some ⟨b, o, none⟩) n c) := blkC h41.out.blk 8
      have lU := blkX h41.out.blk
      have s0 := (h41.out.bel.cell (p := ⟨b, o + k * 4, none⟩) hbl).trans c0.out
      have s1 := (h41.out.bel.cell (p := ⟨b, o + k * 4 + 1, none⟩) hbl).trans c1.out
      have s2 := (h41.out.bel.cell (p := ⟨b, o + k * 4 + 2, none⟩) hbl).trans c2.out
      have s3 := (h41.out.bel.cell (p := ⟨b, o + k * 4 + 3, none⟩) hbl).trans c3.out
      go_wp2_with (fail)
      refine (RWB.uint h41.out _ x.no.toNat (by first | rfl | (simp [IntKind.wrap, IntKind.signed, IntKind.bits]; omega)) (by omega) (by omega)).mono ?_
      rintro e Y3 ⟨rfl, h42⟩
      replace h42 := Lib.hid (h42.cast hy3.out.symm)
      clear s0 s1 s2 s3 z8 lU h41
      have z8 : Y3.cell? ⟨w.heap.size, 8, none⟩ = some (.slice (some ⟨b, o, none⟩) n c) := blkC h42.out.blk 8
      have lU := blkX h42.out.blk
      have s0 := (h42.out.bel.cell (p := ⟨b, o + k * 4, none⟩) hbl).trans c0.out
      have s1 := (h42.out.bel.cell (p := ⟨b, o + k * 4 + 1, none⟩) hbl).trans c1.out
      have s2 := (h42.out.bel.cell (p := ⟨b, o + k * 4 + 2, none⟩) hbl).trans c2.out
      have s3 := (h42.out.bel.cell (p := ⟨b, o + k * 4 + 3, none⟩) hbl).trans c3.out
      go_wp2_with (fail)
      refine (RWB.text h42.out x.v (by omega) (by omega)).mono ?_
      rintro e Y4 ⟨rfl, h43⟩
      replace h43 := Lib.hid (h43.cast hy4.out.symm)
      clear s0 s1 s2 s3 z8 lU h42
      go_wp2_with (fail)
      exact ⟨⟨k + 1, by omega, by go_num, h43.out.cast hout.out⟩, by simp [intOf]; omega⟩
    · obtain rfl : k = n := by omega
      have hft : m.l.take k = m.l := by rw [hN.out, List.take_length]
      rw [hft, ← hfin.out] at h3
      have hk1 : ¬ (k : Int) < (k : Int) := by omega
      have Lf : (bytesM m).length ≤ 800000000 := by rw [hfin.out, List.length_append]; have := bEnts_len (l := m.l) hf.out.l; have := hN.out; omega
      obtain ⟨A1, c1, hi, -⟩ := h3.ex
      have hby := rBytes_any (w.heap.size + 1) A1 c1 (bytesM m) Y hi (by omega) (by omega)
      have bel := Lib.hid h3.bel
      replace hby := Lib.hid hby
      clear hi
      replace h3 := Lib.hid h3
      go_wp2_with (fail)
      refine hby.out.mono ?_
      rintro e w7 ⟨A7, c7, rfl, o7, b7⟩
      have hfn : IsBytes w A7 c7 (bytesM m) w7 := ⟨o7.mono bel.out.size, bel.out.trans (b7.mono bel.out.size)⟩
      replace hfn := Lib.hid hfn
      clear o7 b7
      go_wp2_with (fail)
      go_ret
      exact ⟨A7, c7, rfl, hfn.out⟩
end Go.Proofs.YtlinjanflenljaaGreatDoor

namespace Go.Proofs.YtlinjanflenljaaGreatDoor
open Go.RowKit
set_option linter.unusedSimpArgs false
set_option linter.unusedVariables false
set_option linter.unusedSectionVars false
set_option maxRecDepth 10000
set_option maxHeartbeats 32000000 in
theorem rwrite_TFTFT (m : Mg) (A : Option Addr) (c : Nat) (w : World) (hf : FitM m) (hE : ES w A m.l.length m.l) (hb : uB m.k = true) (hs : uS m.k = false) (hn : uN m.k = true) (hv : uV m.k = false) (hl : uL m.k = true) :
    Calls Tryz.prog 47 #[.agg #[.int .i64 m.k, .int .i64 m.fr, .int .i64 m.tt, .int .i64 m.ro, .int .i64 m.no, .int .i64 m.sl, .int .i64 m.nu, .string (sOf m.v), .slice A m.l.length c]] w fun e w' => ∃ A' c', e = .returned (.slice A' (bytesM m).length c') ∧ IsBytes w A' c' (bytesM m) w' := by
  have hd := hf.hd
  simp only [headOK, decide_eq_true_eq] at hd
  obtain ⟨d1, d2, d3, d4, d5, d6, d7⟩ := hd
  obtain ⟨⟨f0, f1⟩, ⟨f2, f3⟩⟩ := hf.b; obtain ⟨f4, f5⟩ := hf.s; obtain ⟨f6, f7⟩ := hf.n; have f8 := hf.v; have f9 := hf.ln
  have ek := enc_len (n := m.k.toNat) (by omega)
  have efr := enc_len (n := m.fr.toNat) (by omega)
  have ett := enc_len (n := m.tt.toNat) (by omega)
  have ero := enc_len (n := m.ro.toNat) (by omega)
  have eno := enc_len (n := m.no.toNat) (by omega)
  have esl := enc_len (n := m.sl.toNat) (by omega)
  have enu := enc_len (n := m.nu.toNat) (by omega)
  have ev := enc_len (n := m.v.length) (by omega)
  have en := enc_len (n := m.l.length) (by omega)
  obtain ⟨n, hN⟩ : ∃ n, n = m.l.length := ⟨_, rfl⟩
  rw [← hN] at hE en f9 ⊢
  obtain ⟨z0, hz0⟩ : ∃ z, z = ([] : List UInt8) ++ enc m.k.toNat := ⟨_, rfl⟩
  have L0 : z0.length ≤ 10 := by rw [hz0]; simpa using ek
  obtain ⟨z1, hz1⟩ : ∃ z, z = z0 ++ enc m.fr.toNat := ⟨_, rfl⟩
  have L1 : z1.length ≤ 20 := by rw [hz1]; simp only [List.length_append]; omega
  obtain ⟨z2, hz2⟩ : ∃ z, z = z1 ++ enc m.tt.toNat := ⟨_, rfl⟩
  have L2 : z2.length ≤ 30 := by rw [hz2]; simp only [List.length_append]; omega
  obtain ⟨z3, hz3⟩ : ∃ z, z = z2 ++ enc m.ro.toNat := ⟨_, rfl⟩
  have L3 : z3.length ≤ 40 := by rw [hz3]; simp only [List.length_append]; omega
  obtain ⟨z4, hz4⟩ : ∃ z, z = z3 ++ enc m.no.toNat := ⟨_, rfl⟩
  have L4 : z4.length ≤ 50 := by rw [hz4]; simp only [List.length_append]; omega
  obtain ⟨z5, hz5⟩ : ∃ z, z = z4 ++ enc m.nu.toNat := ⟨_, rfl⟩
  have L5 : z5.length ≤ 60 := by rw [hz5]; simp only [List.length_append]; omega
  obtain ⟨z6, hz6⟩ : ∃ z, z = z5 ++ enc n := ⟨_, rfl⟩
  have L6 : z6.length ≤ 70 := by rw [hz6]; simp only [List.length_append]; omega
  have hfin : bytesM m = z6 ++ bEnts m.l := by
    have q1 : bB m = enc m.ro.toNat ++ enc m.no.toNat := by unfold bB; rw [hb]; rfl
    have q2 : bS m = [] := by unfold bS; rw [hs]; rfl
    have q3 : bN m = enc m.nu.toNat := by unfold bN; rw [hn]; rfl
    have q4 : bV m = [] := by unfold bV; rw [hv]; rfl
    have q5 : bL m = enc m.l.length ++ bEnts m.l := by unfold bL; rw [hl]; rfl
    unfold bytesM bHead
    rw [q1, q2, q3, q4, q5, hz6, hz5, hz4, hz3, hz2, hz1, hz0]
    rw [hN]; simp only [List.append_assoc, List.nil_append, List.append_nil]
  replace hz0 := Lib.hid hz0
  replace hz1 := Lib.hid hz1
  replace hz2 := Lib.hid hz2
  replace hz3 := Lib.hid hz3
  replace hz4 := Lib.hid hz4
  replace hz5 := Lib.hid hz5
  replace hz6 := Lib.hid hz6
  have us := fun W => uses_any m.k ⟨d1, d2⟩ W
  simp only [hb, hs, hn, hv, hl] at us
  replace us := Lib.hid us
  have h0 : RW w (w.heap.size + 1) [(w.heap.size, #[.int .i64 m.k, .int .i64 m.fr, .int .i64 m.tt, .int .i64 m.ro, .int .i64 m.no, .int .i64 m.sl, .int .i64 m.nu, .string (sOf m.v), .slice A n c], 28)] [] ((w.alloc (.cells #[.int .i64 m.k, .int .i64 m.fr, .int .i64 m.tt, .int .i64 m.ro, .int .i64 m.no, .int .i64 m.sl, .int .i64 m.nu, .string (sOf m.v), .slice A n c] 28)).alloc (.cells #[.bool true, .slice none 0 0] 133)) := by
    have b2 : Below w.heap.size w (w.alloc (.cells #[.int .i64 m.k, .int .i64 m.fr, .int .i64 m.tt, .int .i64 m.ro, .int .i64 m.no, .int .i64 m.sl, .int .i64 m.nu, .string (sOf m.v), .slice A n c] 28)) := (Below.refl _ w).alloc (Nat.le_refl _) _
    refine ⟨by omega, b2.alloc (by simp) _, ⟨none, 0, ⟨hpNewAt _ (by simp), World.ownsRow_nil _ _ _ _⟩, fun k hk => by cases hk⟩, fun x hx => ?_⟩
    simp only [List.mem_cons, List.not_mem_nil, or_false] at hx
    subst hx
    exact ⟨(hpOld _ (by simp)).trans (hpNew _ _), (show 28 ≠ 5 from by decide), by simp⟩
  replace h0 := Lib.hid h0; replace hE := Lib.hid hE; replace hfin := Lib.hid hfin; replace hN := Lib.hid hN; replace hf := Lib.hid hf
  replace hb := Lib.hid hb; replace hs := Lib.hid hs; replace hn := Lib.hid hn; replace hv := Lib.hid hv; replace hl := Lib.hid hl
  clear ek efr ett ero eno esl enu ev en
  go_enter Tryz.func47, Tryz.ntmps47
  go_wp2_with (fail)
  refine (rNew_any _).mono ?_
  rintro e w3 ⟨rfl, rfl⟩
  obtain ⟨W0, hW0⟩ : ∃ W, W = ((w.alloc (.cells #[.int .i64 m.k, .int .i64 m.fr, .int .i64 m.tt, .int .i64 m.ro, .int .i64 m.no, .int .i64 m.sl, .int .i64 m.nu, .string (sOf m.v), .slice A n c] 28)).alloc (.cells #[.bool true, .slice none 0 0] 133)) := ⟨_, rfl⟩
  rw [← hW0] at h0
  skip
  have u0 : W0.cell? ⟨w.heap.size, 0, none⟩ = some (.int .i64 m.k) := blkC h0.out.blk 0
  have u1 : W0.cell? ⟨w.heap.size, 1, none⟩ = some (.int .i64 m.fr) := blkC h0.out.blk 1
  have u2 : W0.cell? ⟨w.heap.size, 2, none⟩ = some (.int .i64 m.tt) := blkC h0.out.blk 2
  have u3 : W0.cell? ⟨w.heap.size, 3, none⟩ = some (.int .i64 m.ro) := blkC h0.out.blk 3
  have u4 : W0.cell? ⟨w.heap.size, 4, none⟩ = some (.int .i64 m.no) := blkC h0.out.blk 4
  have u5 : W0.cell? ⟨w.heap.size, 5, none⟩ = some (.int .i64 m.sl) := blkC h0.out.blk 5
  have u6 : W0.cell? ⟨w.heap.size, 6, none⟩ = some (.int .i64 m.nu) := blkC h0.out.blk 6
  have u7 : W0.cell? ⟨w.heap.size, 7, none⟩ = some (.string (sOf m.v)) := blkC h0.out.blk 7
  have u8 : W0.cell? ⟨w.heap.size, 8, none⟩ = some (.slice A n c) := blkC h0.out.blk 8
  have lU := blkX h0.out.blk
  rw [← hW0]
  clear hW0
  go_wp2_with (fail)
  refine (us.out _).mono ?_
  rintro e w4 ⟨rfl, rfl⟩
  clear us
  go_wp2_with (fail)
  refine (RWB.uint h0.out _ m.k.toNat (by first | rfl | (simp [IntKind.wrap, IntKind.signed, IntKind.bits]; omega)) (by omega) (by simp)).mono ?_
  rintro e W1 ⟨rfl, h1⟩
  replace h1 := Lib.hid (h1.cast hz0.out.symm)
  clear u0 u1 u2 u3 u4 u5 u6 u7 u8 lU
  clear h0
  have u0 : W1.cell? ⟨w.heap.size, 0, none⟩ = some (.int .i64 m.k) := blkC h1.out.blk 0
  have u1 : W1.cell? ⟨w.heap.size, 1, none⟩ = some (.int .i64 m.fr) := blkC h1.out.blk 1
  have u2 : W1.cell? ⟨w.heap.size, 2, none⟩ = some (.int .i64 m.tt) := blkC h1.out.blk 2
  have u3 : W1.cell? ⟨w.heap.size, 3, none⟩ = some (.int .i64 m.ro) := blkC h1.out.blk 3
  have u4 : W1.cell? ⟨w.heap.size, 4, none⟩ = some (.int .i64 m.no) := blkC h1.out.blk 4
  have u5 : W1.cell? ⟨w.heap.size, 5, none⟩ = some (.int .i64 m.sl) := blkC h1.out.blk 5
  have u6 : W1.cell? ⟨w.heap.size, 6, none⟩ = some (.int .i64 m.nu) := blkC h1.out.blk 6
  have u7 : W1.cell? ⟨w.heap.size, 7, none⟩ = some (.string (sOf m.v)) := blkC h1.out.blk 7
  have u8 : W1.cell? ⟨w.heap.size, 8, none⟩ = some (.slice A n c) := blkC h1.out.blk 8
  have lU := blkX h1.out.blk
  go_wp2_with (fail)
  refine (RWB.uint h1.out _ m.fr.toNat (by first | rfl | (simp [IntKind.wrap, IntKind.signed, IntKind.bits]; omega)) (by omega) (by omega)).mono ?_
  rintro e W2 ⟨rfl, h2⟩
  replace h2 := Lib.hid (h2.cast hz1.out.symm)
  clear u0 u1 u2 u3 u4 u5 u6 u7 u8 lU
  clear h1
  have u0 : W2.cell? ⟨w.heap.size, 0, none⟩ = some (.int .i64 m.k) := blkC h2.out.blk 0
  have u1 : W2.cell? ⟨w.heap.size, 1, none⟩ = some (.int .i64 m.fr) := blkC h2.out.blk 1
  have u2 : W2.cell? ⟨w.heap.size, 2, none⟩ = some (.int .i64 m.tt) := blkC h2.out.blk 2
  have u3 : W2.cell? ⟨w.heap.size, 3, none⟩ = some (.int .i64 m.ro) := blkC h2.out.blk 3
  have u4 : W2.cell? ⟨w.heap.size, 4, none⟩ = some (.int .i64 m.no) := blkC h2.out.blk 4
  have u5 : W2.cell? ⟨w.heap.size, 5, none⟩ = some (.int .i64 m.sl) := blkC h2.out.blk 5
  have u6 : W2.cell? ⟨w.heap.size, 6, none⟩ = some (.int .i64 m.nu) := blkC h2.out.blk 6
  have u7 : W2.cell? ⟨w.heap.size, 7, none⟩ = some (.string (sOf m.v)) := blkC h2.out.blk 7
  have u8 : W2.cell? ⟨w.heap.size, 8, none⟩ = some (.slice A n c) := blkC h2.out.blk 8
  have lU := blkX h2.out.blk
  go_wp2_with (fail)
  refine (RWB.uint h2.out _ m.tt.toNat (by first | rfl | (simp [IntKind.wrap, IntKind.signed, IntKind.bits]; omega)) (by omega) (by omega)).mono ?_
  rintro e W3 ⟨rfl, h3⟩
  replace h3 := Lib.hid (h3.cast hz2.out.symm)
  clear u0 u1 u2 u3 u4 u5 u6 u7 u8 lU
  clear h2
  have u0 : W3.cell? ⟨w.heap.size, 0, none⟩ = some (.int .i64 m.k) := blkC h3.out.blk 0
  have u1 : W3.cell? ⟨w.heap.size, 1, none⟩ = some (.int .i64 m.fr) := blkC h3.out.blk 1
  have u2 : W3.cell? ⟨w.heap.size, 2, none⟩ = some (.int .i64 m.tt) := blkC h3.out.blk 2
  have u3 : W3.cell? ⟨w.heap.size, 3, none⟩ = some (.int .i64 m.ro) := blkC h3.out.blk 3
  have u4 : W3.cell? ⟨w.heap.size, 4, none⟩ = some (.int .i64 m.no) := blkC h3.out.blk 4
  have u5 : W3.cell? ⟨w.heap.size, 5, none⟩ = some (.int .i64 m.sl) := blkC h3.out.blk 5
  have u6 : W3.cell? ⟨w.heap.size, 6, none⟩ = some (.int .i64 m.nu) := blkC h3.out.blk 6
  have u7 : W3.cell? ⟨w.heap.size, 7, none⟩ = some (.string (sOf m.v)) := blkC h3.out.blk 7
  have u8 : W3.cell? ⟨w.heap.size, 8, none⟩ = some (.slice A n c) := blkC h3.out.blk 8
  have lU := blkX h3.out.blk
  go_wp2_with (fail)
  refine (RWB.uint h3.out _ m.ro.toNat (by first | rfl | (simp [IntKind.wrap, IntKind.signed, IntKind.bits]; omega)) (by omega) (by omega)).mono ?_
  rintro e W4 ⟨rfl, h4⟩
  replace h4 := Lib.hid (h4.cast hz3.out.symm)
  clear u0 u1 u2 u3 u4 u5 u6 u7 u8 lU
  clear h3
  have u0 : W4.cell? ⟨w.heap.size, 0, none⟩ = some (.int .i64 m.k) := blkC h4.out.blk 0
  have u1 : W4.cell? ⟨w.heap.size, 1, none⟩ = some (.int .i64 m.fr) := blkC h4.out.blk 1
  have u2 : W4.cell? ⟨w.heap.size, 2, none⟩ = some (.int .i64 m.tt) := blkC h4.out.blk 2
  have u3 : W4.cell? ⟨w.heap.size, 3, none⟩ = some (.int .i64 m.ro) := blkC h4.out.blk 3
  have u4 : W4.cell? ⟨w.heap.size, 4, none⟩ = some (.int .i64 m.no) := blkC h4.out.blk 4
  have u5 : W4.cell? ⟨w.heap.size, 5, none⟩ = some (.int .i64 m.sl) := blkC h4.out.blk 5
  have u6 : W4.cell? ⟨w.heap.size, 6, none⟩ = some (.int .i64 m.nu) := blkC h4.out.blk 6
  have u7 : W4.cell? ⟨w.heap.size, 7, none⟩ = some (.string (sOf m.v)) := blkC h4.out.blk 7
  have u8 : W4.cell? ⟨w.heap.size, 8, none⟩ = some (.slice A n c) := blkC h4.out.blk 8
  have lU := blkX h4.out.blk
  go_wp2_with (fail)
  refine (RWB.uint h4.out _ m.no.toNat (by first | rfl | (simp [IntKind.wrap, IntKind.signed, IntKind.bits]; omega)) (by omega) (by omega)).mono ?_
  rintro e W5 ⟨rfl, h5⟩
  replace h5 := Lib.hid (h5.cast hz4.out.symm)
  clear u0 u1 u2 u3 u4 u5 u6 u7 u8 lU
  clear h4
  have u0 : W5.cell? ⟨w.heap.size, 0, none⟩ = some (.int .i64 m.k) := blkC h5.out.blk 0
  have u1 : W5.cell? ⟨w.heap.size, 1, none⟩ = some (.int .i64 m.fr) := blkC h5.out.blk 1
  have u2 : W5.cell? ⟨w.heap.size, 2, none⟩ = some (.int .i64 m.tt) := blkC h5.out.blk 2
  have u3 : W5.cell? ⟨w.heap.size, 3, none⟩ = some (.int .i64 m.ro) := blkC h5.out.blk 3
  have u4 : W5.cell? ⟨w.heap.size, 4, none⟩ = some (.int .i64 m.no) := blkC h5.out.blk 4
  have u5 : W5.cell? ⟨w.heap.size, 5, none⟩ = some (.int .i64 m.sl) := blkC h5.out.blk 5
  have u6 : W5.cell? ⟨w.heap.size, 6, none⟩ = some (.int .i64 m.nu) := blkC h5.out.blk 6
  have u7 : W5.cell? ⟨w.heap.size, 7, none⟩ = some (.string (sOf m.v)) := blkC h5.out.blk 7
  have u8 : W5.cell? ⟨w.heap.size, 8, none⟩ = some (.slice A n c) := blkC h5.out.blk 8
  have lU := blkX h5.out.blk
  go_wp2_with (fail)
  refine (RWB.uint h5.out _ m.nu.toNat (by first | rfl | (simp [IntKind.wrap, IntKind.signed, IntKind.bits]; omega)) (by omega) (by omega)).mono ?_
  rintro e W6 ⟨rfl, h6⟩
  replace h6 := Lib.hid (h6.cast hz5.out.symm)
  clear u0 u1 u2 u3 u4 u5 u6 u7 u8 lU
  clear h5
  have u0 : W6.cell? ⟨w.heap.size, 0, none⟩ = some (.int .i64 m.k) := blkC h6.out.blk 0
  have u1 : W6.cell? ⟨w.heap.size, 1, none⟩ = some (.int .i64 m.fr) := blkC h6.out.blk 1
  have u2 : W6.cell? ⟨w.heap.size, 2, none⟩ = some (.int .i64 m.tt) := blkC h6.out.blk 2
  have u3 : W6.cell? ⟨w.heap.size, 3, none⟩ = some (.int .i64 m.ro) := blkC h6.out.blk 3
  have u4 : W6.cell? ⟨w.heap.size, 4, none⟩ = some (.int .i64 m.no) := blkC h6.out.blk 4
  have u5 : W6.cell? ⟨w.heap.size, 5, none⟩ = some (.int .i64 m.sl) := blkC h6.out.blk 5
  have u6 : W6.cell? ⟨w.heap.size, 6, none⟩ = some (.int .i64 m.nu) := blkC h6.out.blk 6
  have u7 : W6.cell? ⟨w.heap.size, 7, none⟩ = some (.string (sOf m.v)) := blkC h6.out.blk 7
  have u8 : W6.cell? ⟨w.heap.size, 8, none⟩ = some (.slice A n c) := blkC h6.out.blk 8
  have lU := blkX h6.out.blk
  go_wp2_with (fail)
  refine (RWB.uint h6.out _ n (by first | rfl | (simp [IntKind.wrap, IntKind.signed, IntKind.bits]; omega)) (by omega) (by omega)).mono ?_
  rintro e W7 ⟨rfl, h7⟩
  replace h7 := Lib.hid (h7.cast hz6.out.symm)
  clear u0 u1 u2 u3 u4 u5 u6 u7 u8 lU
  clear h6
  have u0 : W7.cell? ⟨w.heap.size, 0, none⟩ = some (.int .i64 m.k) := blkC h7.out.blk 0
  have u1 : W7.cell? ⟨w.heap.size, 1, none⟩ = some (.int .i64 m.fr) := blkC h7.out.blk 1
  have u2 : W7.cell? ⟨w.heap.size, 2, none⟩ = some (.int .i64 m.tt) := blkC h7.out.blk 2
  have u3 : W7.cell? ⟨w.heap.size, 3, none⟩ = some (.int .i64 m.ro) := blkC h7.out.blk 3
  have u4 : W7.cell? ⟨w.heap.size, 4, none⟩ = some (.int .i64 m.no) := blkC h7.out.blk 4
  have u5 : W7.cell? ⟨w.heap.size, 5, none⟩ = some (.int .i64 m.sl) := blkC h7.out.blk 5
  have u6 : W7.cell? ⟨w.heap.size, 6, none⟩ = some (.int .i64 m.nu) := blkC h7.out.blk 6
  have u7 : W7.cell? ⟨w.heap.size, 7, none⟩ = some (.string (sOf m.v)) := blkC h7.out.blk 7
  have u8 : W7.cell? ⟨w.heap.size, 8, none⟩ = some (.slice A n c) := blkC h7.out.blk 8
  have lU := blkX h7.out.blk
  go_wp2_with (fail)
  go_loopw [9] (fun i wr => ∃ k : Nat, k ≤ n ∧ i = .int .i64 k ∧ RW w (w.heap.size + 1) [(w.heap.size, #[.int .i64 m.k, .int .i64 m.fr, .int .i64 m.tt, .int .i64 m.ro, .int .i64 m.no, .int .i64 m.sl, .int .i64 m.nu, .string (sOf m.v), .slice A n c], 28)] (z6 ++ bEnts (m.l.take k)) wr) (fun i _ => n - (intOf i).toNat)
  case atStart => exact ⟨0, by omega, rfl, h7.out.cast (by simp [bEnts])⟩
  case round =>
    revert wr
    intro Y hrel
    obtain ⟨k, hk, rfl, h3⟩ := hrel
    clear u0 u1 u2 u3 u4 u5 u6 u7 u8 lU h7
    have z8 : Y.cell? ⟨w.heap.size, 8, none⟩ = some (.slice A n c) := blkC h3.blk 8
    have lU := blkX h3.blk
    by_cases hlt : k < n
    · obtain ⟨b, o, x, rfl, hbl, hx, c0, c1, c2, c3⟩ := ES.at_ hE.out hlt
      obtain ⟨g1, g2, g3, g4⟩ := hf.out.l x (List.mem_of_getElem? hx)
      have hsn := bEnts_snoc hx
      have hlen := bEnts_len (l := m.l.take k) fun y hy => hf.out.l y (List.mem_of_mem_take hy)
      rw [List.length_take] at hlen
      have i0 := enc_len (n := x.sl.toNat) (by omega)
      have i1 := enc_len (n := x.ro.toNat) (by omega)
      have i2 := enc_len (n := x.no.toNat) (by omega)
      have i3 := enc_len (n := x.v.length) (by omega)
      have k0 : (0 : Int) ≤ k := by omega
      have k1 : (k : Int) < (n : Int) := by omega
      obtain ⟨y0, hy0⟩ : ∃ y, y = z6 ++ bEnts (m.l.take k) := ⟨_, rfl⟩
      have M0 : y0.length ≤ 800000000 := by rw [hy0]; simp only [List.length_append]; omega
      rw [← hy0] at h3
      obtain ⟨y1, hy1⟩ : ∃ y, y = y0 ++ enc x.sl.toNat := ⟨_, rfl⟩
      have M1 : y1.length ≤ 800070000 := by rw [hy1]; simp only [List.length_append]; omega
      obtain ⟨y2, hy2⟩ : ∃ y, y = y1 ++ enc x.ro.toNat := ⟨_, rfl⟩
      have M2 : y2.length ≤ 800140000 := by rw [hy2]; simp only [List.length_append]; omega
      obtain ⟨y3, hy3⟩ : ∃ y, y = y2 ++ enc x.no.toNat := ⟨_, rfl⟩
      have M3 : y3.length ≤ 800210000 := by rw [hy3]; simp only [List.length_append]; omega
      obtain ⟨y4, hy4⟩ : ∃ y, y = y3 ++ (enc x.v.length ++ x.v) := ⟨_, rfl⟩
      have M4 : y4.length ≤ 800280000 := by rw [hy4]; simp only [List.length_append]; omega
      have hout : y4 = z6 ++ bEnts (m.l.take (k + 1)) := by rw [hsn, hy4, hy3, hy2, hy1, hy0]; simp only [bEnt, List.append_assoc]
      replace hout := Lib.hid hout; replace hy0 := Lib.hid hy0; replace hy1 := Lib.hid hy1; replace hy2 := Lib.hid hy2; replace hy3 := Lib.hid hy3; replace hy4 := Lib.hid hy4; replace hsn := Lib.hid hsn; replace hlen := Lib.hid hlen; replace c0 := Lib.hid c0; replace c1 := Lib.hid c1; replace c2 := Lib.hid c2; replace c3 := Lib.hid c3
      clear hx
      replace h3 := Lib.hid h3
      have s0 := (h3.out.bel.cell (p := ⟨b, o + k * 4, none⟩) hbl).trans c0.out
      have s1 := (h3.out.bel.cell (p := ⟨b, o + k * 4 + 1, none⟩) hbl).trans c1.out
      have s2 := (h3.out.bel.cell (p := ⟨b, o + k * 4 + 2, none⟩) hbl).trans c2.out
      have s3 := (h3.out.bel.cell (p := ⟨b, o + k * 4 + 3, none⟩) hbl).trans c3.out
      go_wp2_with (fail)
      refine (RWB.uint h3.out _ x.sl.toNat (by first | rfl | (simp [IntKind.wrap, IntKind.signed, IntKind.bits]; omega)) (by omega) (by omega)).mono ?_
      rintro e Y1 ⟨rfl, h40⟩
      replace h40 := Lib.hid (h40.cast hy1.out.symm)
      clear s0 s1 s2 s3 z8 lU h3
      have z8 : Y1.cell? ⟨w.heap.size, 8, none⟩ = some (.slice (some ⟨b, o, none⟩) n c) := blkC h40.out.blk 8
      have lU := blkX h40.out.blk
      have s0 := (h40.out.bel.cell (p := ⟨b, o + k * 4, none⟩) hbl).trans c0.out
      have s1 := (h40.out.bel.cell (p := ⟨b, o + k * 4 + 1, none⟩) hbl).trans c1.out
      have s2 := (h40.out.bel.cell (p := ⟨b, o + k * 4 + 2, none⟩) hbl).trans c2.out
      have s3 := (h40.out.bel.cell (p := ⟨b, o + k * 4 + 3, none⟩) hbl).trans c3.out
      go_wp2_with (fail)
      refine (RWB.uint h40.out _ x.ro.toNat (by first | rfl | (simp [IntKind.wrap, IntKind.signed, IntKind.bits]; omega)) (by omega) (by omega)).mono ?_
      rintro e Y2 ⟨rfl, h41⟩
      replace h41 := Lib.hid (h41.cast hy2.out.symm)
      clear s0 s1 s2 s3 z8 lU h40
      have z8 : Y2.cell? ⟨w.heap.size, 8, none⟩ = some (.slice (some ⟨b, o, none⟩) n c) := blkC h41.out.blk 8
      have lU := blkX h41.out.blk
      have s0 := (h41.out.bel.cell (p := ⟨b, o + k * 4, none⟩) hbl).trans c0.out
      have s1 := (h41.out.bel.cell (p := ⟨b, o + k * 4 + 1, none⟩) hbl).trans c1.out
      have s2 := (h41.out.bel.cell (p := ⟨b, o + k * 4 + 2, none⟩) hbl).trans c2.out
      have s3 := (h41.out.bel.cell (p := ⟨b, o + k * 4 + 3, none⟩) hbl).trans c3.out
      go_wp2_with (fail)
      refine (RWB.uint h41.out _ x.no.toNat (by first | rfl | (simp [IntKind.wrap, IntKind.signed, IntKind.bits]; omega)) (by omega) (by omega)).mono ?_
      rintro e Y3 ⟨rfl, h42⟩
      replace h42 := Lib.hid (h42.cast hy3.out.symm)
      clear s0 s1 s2 s3 z8 lU h41
      have z8 : Y3.cell? ⟨w.heap.size, 8, none⟩ = some (.slice (some ⟨b, o, none⟩) n c) := blkC h42.out.blk 8
      have lU := blkX h42.out.blk
      have s0 := (h42.out.bel.cell (p := ⟨b, o + k * 4, none⟩) hbl).trans c0.out
      have s1 := (h42.out.bel.cell (p := ⟨b, o + k * 4 + 1, none⟩) hbl).trans c1.out
      have s2 := (h42.out.bel.cell (p := ⟨b, o + k * 4 + 2, none⟩) hbl).trans c2.out
      have s3 := (h42.out.bel.cell (p := ⟨b, o + k * 4 + 3, none⟩) hbl).trans c3.out
      go_wp2_with (fail)
      refine (RWB.text h42.out x.v (by omega) (by omega)).mono ?_
      rintro e Y4 ⟨rfl, h43⟩
      replace h43 := Lib.hid (h43.cast hy4.out.symm)
      clear s0 s1 s2 s3 z8 lU h42
      go_wp2_with (fail)
      exact ⟨⟨k + 1, by omega, by go_num, h43.out.cast hout.out⟩, by simp [intOf]; omega⟩
    · obtain rfl : k = n := by omega
      have hft : m.l.take k = m.l := by rw [hN.out, List.take_length]
      rw [hft, ← hfin.out] at h3
      have hk1 : ¬ (k : Int) < (k : Int) := by omega
      have Lf : (bytesM m).length ≤ 800000000 := by rw [hfin.out, List.length_append]; have := bEnts_len (l := m.l) hf.out.l; have := hN.out; omega
      obtain ⟨A1, c1, hi, -⟩ := h3.ex
      have hby := rBytes_any (w.heap.size + 1) A1 c1 (bytesM m) Y hi (by omega) (by omega)
      have bel := Lib.hid h3.bel
      replace hby := Lib.hid hby
      clear hi
      replace h3 := Lib.hid h3
      go_wp2_with (fail)
      refine hby.out.mono ?_
      rintro e w7 ⟨A7, c7, rfl, o7, b7⟩
      have hfn : IsBytes w A7 c7 (bytesM m) w7 := ⟨o7.mono bel.out.size, bel.out.trans (b7.mono bel.out.size)⟩
      replace hfn := Lib.hid hfn
      clear o7 b7
      go_wp2_with (fail)
      go_ret
      exact ⟨A7, c7, rfl, hfn.out⟩
set_option maxHeartbeats 32000000 in
theorem rwrite_TFTFF (m : Mg) (A : Option Addr) (c : Nat) (w : World) (hf : FitM m) (hE : ES w A m.l.length m.l) (hb : uB m.k = true) (hs : uS m.k = false) (hn : uN m.k = true) (hv : uV m.k = false) (hl : uL m.k = false) (hnil : m.l = []) :
    Calls Tryz.prog 47 #[.agg #[.int .i64 m.k, .int .i64 m.fr, .int .i64 m.tt, .int .i64 m.ro, .int .i64 m.no, .int .i64 m.sl, .int .i64 m.nu, .string (sOf m.v), .slice A m.l.length c]] w fun e w' => ∃ A' c', e = .returned (.slice A' (bytesM m).length c') ∧ IsBytes w A' c' (bytesM m) w' := by
  have hd := hf.hd
  simp only [headOK, decide_eq_true_eq] at hd
  obtain ⟨d1, d2, d3, d4, d5, d6, d7⟩ := hd
  obtain ⟨⟨f0, f1⟩, ⟨f2, f3⟩⟩ := hf.b; obtain ⟨f4, f5⟩ := hf.s; obtain ⟨f6, f7⟩ := hf.n; have f8 := hf.v; have f9 := hf.ln
  have ek := enc_len (n := m.k.toNat) (by omega)
  have efr := enc_len (n := m.fr.toNat) (by omega)
  have ett := enc_len (n := m.tt.toNat) (by omega)
  have ero := enc_len (n := m.ro.toNat) (by omega)
  have eno := enc_len (n := m.no.toNat) (by omega)
  have esl := enc_len (n := m.sl.toNat) (by omega)
  have enu := enc_len (n := m.nu.toNat) (by omega)
  have ev := enc_len (n := m.v.length) (by omega)
  have en := enc_len (n := m.l.length) (by omega)
  obtain ⟨n, hN⟩ : ∃ n, n = m.l.length := ⟨_, rfl⟩
  rw [← hN] at hE en f9 ⊢
  obtain ⟨z0, hz0⟩ : ∃ z, z = ([] : List UInt8) ++ enc m.k.toNat := ⟨_, rfl⟩
  have L0 : z0.length ≤ 10 := by rw [hz0]; simpa using ek
  obtain ⟨z1, hz1⟩ : ∃ z, z = z0 ++ enc m.fr.toNat := ⟨_, rfl⟩
  have L1 : z1.length ≤ 20 := by rw [hz1]; simp only [List.length_append]; omega
  obtain ⟨z2, hz2⟩ : ∃ z, z = z1 ++ enc m.tt.toNat := ⟨_, rfl⟩
  have L2 : z2.length ≤ 30 := by rw [hz2]; simp only [List.length_append]; omega
  obtain ⟨z3, hz3⟩ : ∃ z, z = z2 ++ enc m.ro.toNat := ⟨_, rfl⟩
  have L3 : z3.length ≤ 40 := by rw [hz3]; simp only [List.length_append]; omega
  obtain ⟨z4, hz4⟩ : ∃ z, z = z3 ++ enc m.no.toNat := ⟨_, rfl⟩
  have L4 : z4.length ≤ 50 := by rw [hz4]; simp only [List.length_append]; omega
  obtain ⟨z5, hz5⟩ : ∃ z, z = z4 ++ enc m.nu.toNat := ⟨_, rfl⟩
  have L5 : z5.length ≤ 60 := by rw [hz5]; simp only [List.length_append]; omega
  have hfin : bytesM m = z5 ++ bEnts m.l := by
    have q1 : bB m = enc m.ro.toNat ++ enc m.no.toNat := by unfold bB; rw [hb]; rfl
    have q2 : bS m = [] := by unfold bS; rw [hs]; rfl
    have q3 : bN m = enc m.nu.toNat := by unfold bN; rw [hn]; rfl
    have q4 : bV m = [] := by unfold bV; rw [hv]; rfl
    have q5 : bL m = bEnts m.l := by unfold bL; rw [hl]; rw [hnil]; rfl
    unfold bytesM bHead
    rw [q1, q2, q3, q4, q5, hz5, hz4, hz3, hz2, hz1, hz0]
    simp only [List.append_assoc, List.nil_append, List.append_nil]
  replace hz0 := Lib.hid hz0
  replace hz1 := Lib.hid hz1
  replace hz2 := Lib.hid hz2
  replace hz3 := Lib.hid hz3
  replace hz4 := Lib.hid hz4
  replace hz5 := Lib.hid hz5
  have us := fun W => uses_any m.k ⟨d1, d2⟩ W
  simp only [hb, hs, hn, hv, hl] at us
  replace us := Lib.hid us
  have h0 : RW w (w.heap.size + 1) [(w.heap.size, #[.int .i64 m.k, .int .i64 m.fr, .int .i64 m.tt, .int .i64 m.ro, .int .i64 m.no, .int .i64 m.sl, .int .i64 m.nu, .string (sOf m.v), .slice A n c], 28)] [] ((w.alloc (.cells #[.int .i64 m.k, .int .i64 m.fr, .int .i64 m.tt, .int .i64 m.ro, .int .i64 m.no, .int .i64 m.sl, .int .i64 m.nu, .string (sOf m.v), .slice A n c] 28)).alloc (.cells #[.bool true, .slice none 0 0] 133)) := by
    have b2 : Below w.heap.size w (w.alloc (.cells #[.int .i64 m.k, .int .i64 m.fr, .int .i64 m.tt, .int .i64 m.ro, .int .i64 m.no, .int .i64 m.sl, .int .i64 m.nu, .string (sOf m.v), .slice A n c] 28)) := (Below.refl _ w).alloc (Nat.le_refl _) _
    refine ⟨by omega, b2.alloc (by simp) _, ⟨none, 0, ⟨hpNewAt _ (by simp), World.ownsRow_nil _ _ _ _⟩, fun k hk => by cases hk⟩, fun x hx => ?_⟩
    simp only [List.mem_cons, List.not_mem_nil, or_false] at hx
    subst hx
    exact ⟨(hpOld _ (by simp)).trans (hpNew _ _), (show 28 ≠ 5 from by decide), by simp⟩
  replace h0 := Lib.hid h0; replace hE := Lib.hid hE; replace hfin := Lib.hid hfin; replace hN := Lib.hid hN; replace hf := Lib.hid hf; replace hnil := Lib.hid hnil
  replace hb := Lib.hid hb; replace hs := Lib.hid hs; replace hn := Lib.hid hn; replace hv := Lib.hid hv; replace hl := Lib.hid hl
  clear ek efr ett ero eno esl enu ev en
  go_enter Tryz.func47, Tryz.ntmps47
  go_wp2_with (fail)
  refine (rNew_any _).mono ?_
  rintro e w3 ⟨rfl, rfl⟩
  obtain ⟨W0, hW0⟩ : ∃ W, W = ((w.alloc (.cells #[.int .i64 m.k, .int .i64 m.fr, .int .i64 m.tt, .int .i64 m.ro, .int .i64 m.no, .int .i64 m.sl, .int .i64 m.nu, .string (sOf m.v), .slice A n c] 28)).alloc (.cells #[.bool true, .slice none 0 0] 133)) := ⟨_, rfl⟩
  rw [← hW0] at h0
  skip
  have u0 : W0.cell? ⟨w.heap.size, 0, none⟩ = some (.int .i64 m.k) := blkC h0.out.blk 0
  have u1 : W0.cell? ⟨w.heap.size, 1, none⟩ = some (.int .i64 m.fr) := blkC h0.out.blk 1
  have u2 : W0.cell? ⟨w.heap.size, 2, none⟩ = some (.int .i64 m.tt) := blkC h0.out.blk 2
  have u3 : W0.cell? ⟨w.heap.size, 3, none⟩ = some (.int .i64 m.ro) := blkC h0.out.blk 3
  have u4 : W0.cell? ⟨w.heap.size, 4, none⟩ = some (.int .i64 m.no) := blkC h0.out.blk 4
  have u5 : W0.cell? ⟨w.heap.size, 5, none⟩ = some (.int .i64 m.sl) := blkC h0.out.blk 5
  have u6 : W0.cell? ⟨w.heap.size, 6, none⟩ = some (.int .i64 m.nu) := blkC h0.out.blk 6
  have u7 : W0.cell? ⟨w.heap.size, 7, none⟩ = some (.string (sOf m.v)) := blkC h0.out.blk 7
  have u8 : W0.cell? ⟨w.heap.size, 8, none⟩ = some (.slice A n c) := blkC h0.out.blk 8
  have lU := blkX h0.out.blk
  rw [← hW0]
  clear hW0
  go_wp2_with (fail)
  refine (us.out _).mono ?_
  rintro e w4 ⟨rfl, rfl⟩
  clear us
  go_wp2_with (fail)
  refine (RWB.uint h0.out _ m.k.toNat (by first | rfl | (simp [IntKind.wrap, IntKind.signed, IntKind.bits]; omega)) (by omega) (by simp)).mono ?_
  rintro e W1 ⟨rfl, h1⟩
  replace h1 := Lib.hid (h1.cast hz0.out.symm)
  clear u0 u1 u2 u3 u4 u5 u6 u7 u8 lU
  clear h0
  have u0 : W1.cell? ⟨w.heap.size, 0, none⟩ = some (.int .i64 m.k) := blkC h1.out.blk 0
  have u1 : W1.cell? ⟨w.heap.size, 1, none⟩ = some (.int .i64 m.fr) := blkC h1.out.blk 1
  have u2 : W1.cell? ⟨w.heap.size, 2, none⟩ = some (.int .i64 m.tt) := blkC h1.out.blk 2
  have u3 : W1.cell? ⟨w.heap.size, 3, none⟩ = some (.int .i64 m.ro) := blkC h1.out.blk 3
  have u4 : W1.cell? ⟨w.heap.size, 4, none⟩ = some (.int .i64 m.no) := blkC h1.out.blk 4
  have u5 : W1.cell? ⟨w.heap.size, 5, none⟩ = some (.int .i64 m.sl) := blkC h1.out.blk 5
  have u6 : W1.cell? ⟨w.heap.size, 6, none⟩ = some (.int .i64 m.nu) := blkC h1.out.blk 6
  have u7 : W1.cell? ⟨w.heap.size, 7, none⟩ = some (.string (sOf m.v)) := blkC h1.out.blk 7
  have u8 : W1.cell? ⟨w.heap.size, 8, none⟩ = some (.slice A n c) := blkC h1.out.blk 8
  have lU := blkX h1.out.blk
  go_wp2_with (fail)
  refine (RWB.uint h1.out _ m.fr.toNat (by first | rfl | (simp [IntKind.wrap, IntKind.signed, IntKind.bits]; omega)) (by omega) (by omega)).mono ?_
  rintro e W2 ⟨rfl, h2⟩
  replace h2 := Lib.hid (h2.cast hz1.out.symm)
  clear u0 u1 u2 u3 u4 u5 u6 u7 u8 lU
  clear h1
  have u0 : W2.cell? ⟨w.heap.size, 0, none⟩ = some (.int .i64 m.k) := blkC h2.out.blk 0
  have u1 : W2.cell? ⟨w.heap.size, 1, none⟩ = some (.int .i64 m.fr) := blkC h2.out.blk 1
  have u2 : W2.cell? ⟨w.heap.size, 2, none⟩ = some (.int .i64 m.tt) := blkC h2.out.blk 2
  have u3 : W2.cell? ⟨w.heap.size, 3, none⟩ = some (.int .i64 m.ro) := blkC h2.out.blk 3
  have u4 : W2.cell? ⟨w.heap.size, 4, none⟩ = some (.int .i64 m.no) := blkC h2.out.blk 4
  have u5 : W2.cell? ⟨w.heap.size, 5, none⟩ = some (.int .i64 m.sl) := blkC h2.out.blk 5
  have u6 : W2.cell? ⟨w.heap.size, 6, none⟩ = some (.int .i64 m.nu) := blkC h2.out.blk 6
  have u7 : W2.cell? ⟨w.heap.size, 7, none⟩ = some (.string (sOf m.v)) := blkC h2.out.blk 7
  have u8 : W2.cell? ⟨w.heap.size, 8, none⟩ = some (.slice A n c) := blkC h2.out.blk 8
  have lU := blkX h2.out.blk
  go_wp2_with (fail)
  refine (RWB.uint h2.out _ m.tt.toNat (by first | rfl | (simp [IntKind.wrap, IntKind.signed, IntKind.bits]; omega)) (by omega) (by omega)).mono ?_
  rintro e W3 ⟨rfl, h3⟩
  replace h3 := Lib.hid (h3.cast hz2.out.symm)
  clear u0 u1 u2 u3 u4 u5 u6 u7 u8 lU
  clear h2
  have u0 : W3.cell? ⟨w.heap.size, 0, none⟩ = some (.int .i64 m.k) := blkC h3.out.blk 0
  have u1 : W3.cell? ⟨w.heap.size, 1, none⟩ = some (.int .i64 m.fr) := blkC h3.out.blk 1
  have u2 : W3.cell? ⟨w.heap.size, 2, none⟩ = some (.int .i64 m.tt) := blkC h3.out.blk 2
  have u3 : W3.cell? ⟨w.heap.size, 3, none⟩ = some (.int .i64 m.ro) := blkC h3.out.blk 3
  have u4 : W3.cell? ⟨w.heap.size, 4, none⟩ = some (.int .i64 m.no) := blkC h3.out.blk 4
  have u5 : W3.cell? ⟨w.heap.size, 5, none⟩ = some (.int .i64 m.sl) := blkC h3.out.blk 5
  have u6 : W3.cell? ⟨w.heap.size, 6, none⟩ = some (.int .i64 m.nu) := blkC h3.out.blk 6
  have u7 : W3.cell? ⟨w.heap.size, 7, none⟩ = some (.string (sOf m.v)) := blkC h3.out.blk 7
  have u8 : W3.cell? ⟨w.heap.size, 8, none⟩ = some (.slice A n c) := blkC h3.out.blk 8
  have lU := blkX h3.out.blk
  go_wp2_with (fail)
  refine (RWB.uint h3.out _ m.ro.toNat (by first | rfl | (simp [IntKind.wrap, IntKind.signed, IntKind.bits]; omega)) (by omega) (by omega)).mono ?_
  rintro e W4 ⟨rfl, h4⟩
  replace h4 := Lib.hid (h4.cast hz3.out.symm)
  clear u0 u1 u2 u3 u4 u5 u6 u7 u8 lU
  clear h3
  have u0 : W4.cell? ⟨w.heap.size, 0, none⟩ = some (.int .i64 m.k) := blkC h4.out.blk 0
  have u1 : W4.cell? ⟨w.heap.size, 1, none⟩ = some (.int .i64 m.fr) := blkC h4.out.blk 1
  have u2 : W4.cell? ⟨w.heap.size, 2, none⟩ = some (.int .i64 m.tt) := blkC h4.out.blk 2
  have u3 : W4.cell? ⟨w.heap.size, 3, none⟩ = some (.int .i64 m.ro) := blkC h4.out.blk 3
  have u4 : W4.cell? ⟨w.heap.size, 4, none⟩ = some (.int .i64 m.no) := blkC h4.out.blk 4
  have u5 : W4.cell? ⟨w.heap.size, 5, none⟩ = some (.int .i64 m.sl) := blkC h4.out.blk 5
  have u6 : W4.cell? ⟨w.heap.size, 6, none⟩ = some (.int .i64 m.nu) := blkC h4.out.blk 6
  have u7 : W4.cell? ⟨w.heap.size, 7, none⟩ = some (.string (sOf m.v)) := blkC h4.out.blk 7
  have u8 : W4.cell? ⟨w.heap.size, 8, none⟩ = some (.slice A n c) := blkC h4.out.blk 8
  have lU := blkX h4.out.blk
  go_wp2_with (fail)
  refine (RWB.uint h4.out _ m.no.toNat (by first | rfl | (simp [IntKind.wrap, IntKind.signed, IntKind.bits]; omega)) (by omega) (by omega)).mono ?_
  rintro e W5 ⟨rfl, h5⟩
  replace h5 := Lib.hid (h5.cast hz4.out.symm)
  clear u0 u1 u2 u3 u4 u5 u6 u7 u8 lU
  clear h4
  have u0 : W5.cell? ⟨w.heap.size, 0, none⟩ = some (.int .i64 m.k) := blkC h5.out.blk 0
  have u1 : W5.cell? ⟨w.heap.size, 1, none⟩ = some (.int .i64 m.fr) := blkC h5.out.blk 1
  have u2 : W5.cell? ⟨w.heap.size, 2, none⟩ = some (.int .i64 m.tt) := blkC h5.out.blk 2
  have u3 : W5.cell? ⟨w.heap.size, 3, none⟩ = some (.int .i64 m.ro) := blkC h5.out.blk 3
  have u4 : W5.cell? ⟨w.heap.size, 4, none⟩ = some (.int .i64 m.no) := blkC h5.out.blk 4
  have u5 : W5.cell? ⟨w.heap.size, 5, none⟩ = some (.int .i64 m.sl) := blkC h5.out.blk 5
  have u6 : W5.cell? ⟨w.heap.size, 6, none⟩ = some (.int .i64 m.nu) := blkC h5.out.blk 6
  have u7 : W5.cell? ⟨w.heap.size, 7, none⟩ = some (.string (sOf m.v)) := blkC h5.out.blk 7
  have u8 : W5.cell? ⟨w.heap.size, 8, none⟩ = some (.slice A n c) := blkC h5.out.blk 8
  have lU := blkX h5.out.blk
  go_wp2_with (fail)
  refine (RWB.uint h5.out _ m.nu.toNat (by first | rfl | (simp [IntKind.wrap, IntKind.signed, IntKind.bits]; omega)) (by omega) (by omega)).mono ?_
  rintro e W6 ⟨rfl, h6⟩
  replace h6 := Lib.hid (h6.cast hz5.out.symm)
  clear u0 u1 u2 u3 u4 u5 u6 u7 u8 lU
  clear h5
  have u0 : W6.cell? ⟨w.heap.size, 0, none⟩ = some (.int .i64 m.k) := blkC h6.out.blk 0
  have u1 : W6.cell? ⟨w.heap.size, 1, none⟩ = some (.int .i64 m.fr) := blkC h6.out.blk 1
  have u2 : W6.cell? ⟨w.heap.size, 2, none⟩ = some (.int .i64 m.tt) := blkC h6.out.blk 2
  have u3 : W6.cell? ⟨w.heap.size, 3, none⟩ = some (.int .i64 m.ro) := blkC h6.out.blk 3
  have u4 : W6.cell? ⟨w.heap.size, 4, none⟩ = some (.int .i64 m.no) := blkC h6.out.blk 4
  have u5 : W6.cell? ⟨w.heap.size, 5, none⟩ = some (.int .i64 m.sl) := blkC h6.out.blk 5
  have u6 : W6.cell? ⟨w.heap.size, 6, none⟩ = some (.int .i64 m.nu) := blkC h6.out.blk 6
  have u7 : W6.cell? ⟨w.heap.size, 7, none⟩ = some (.string (sOf m.v)) := blkC h6.out.blk 7
  have u8 : W6.cell? ⟨w.heap.size, 8, none⟩ = some (.slice A n c) := blkC h6.out.blk 8
  have lU := blkX h6.out.blk
  go_wp2_with (fail)
  go_loopw [9] (fun i wr => ∃ k : Nat, k ≤ n ∧ i = .int .i64 k ∧ RW w (w.heap.size + 1) [(w.heap.size, #[.int .i64 m.k, .int .i64 m.fr, .int .i64 m.tt, .int .i64 m.ro, .int .i64 m.no, .int .i64 m.sl, .int .i64 m.nu, .string (sOf m.v), .slice A n c], 28)] (z5 ++ bEnts (m.l.take k)) wr) (fun i _ => n - (intOf i).toNat)
  case atStart => exact ⟨0, by omega, rfl, h6.out.cast (by simp [bEnts])⟩
  case round =>
    revert wr
    intro Y hrel
    obtain ⟨k, hk, rfl, h3⟩ := hrel
    clear u0 u1 u2 u3 u4 u5 u6 u7 u8 lU h6
    have z8 : Y.cell? ⟨w.heap.size, 8, none⟩ = some (.slice A n c) := blkC h3.blk 8
    have lU := blkX h3.blk
    by_cases hlt : k < n
    · obtain ⟨b, o, x, rfl, hbl, hx, c0, c1, c2, c3⟩ := ES.at_ hE.out hlt
      obtain ⟨g1, g2, g3, g4⟩ := hf.out.l x (List.mem_of_getElem? hx)
      have hsn := bEnts_snoc hx
      have hlen := bEnts_len (l := m.l.take k) fun y hy => hf.out.l y (List.mem_of_mem_take hy)
      rw [List.length_take] at hlen
      have i0 := enc_len (n := x.sl.toNat) (by omega)
      have i1 := enc_len (n := x.ro.toNat) (by omega)
      have i2 := enc_len (n := x.no.toNat) (by omega)
      have i3 := enc_len (n := x.v.length) (by omega)
      have k0 : (0 : Int) ≤ k := by omega
      have k1 : (k : Int) < (n : Int) := by omega
      obtain ⟨y0, hy0⟩ : ∃ y, y = z5 ++ bEnts (m.l.take k) := ⟨_, rfl⟩
      have M0 : y0.length ≤ 800000000 := by rw [hy0]; simp only [List.length_append]; omega
      rw [← hy0] at h3
      obtain ⟨y1, hy1⟩ : ∃ y, y = y0 ++ enc x.sl.toNat := ⟨_, rfl⟩
      have M1 : y1.length ≤ 800070000 := by rw [hy1]; simp only [List.length_append]; omega
      obtain ⟨y2, hy2⟩ : ∃ y, y = y1 ++ enc x.ro.toNat := ⟨_, rfl⟩
      have M2 : y2.length ≤ 800140000 := by rw [hy2]; simp only [List.length_append]; omega
      obtain ⟨y3, hy3⟩ : ∃ y, y = y2 ++ enc x.no.toNat := ⟨_, rfl⟩
      have M3 : y3.length ≤ 800210000 := by rw [hy3]; simp only [List.length_append]; omega
      obtain ⟨y4, hy4⟩ : ∃ y, y = y3 ++ (enc x.v.length ++ x.v) := ⟨_, rfl⟩
      have M4 : y4.length ≤ 800280000 := by rw [hy4]; simp only [List.length_append]; omega
      have hout : y4 = z5 ++ bEnts (m.l.take (k + 1)) := by rw [hsn, hy4, hy3, hy2, hy1, hy0]; simp only [bEnt, List.append_assoc]
      replace hout := Lib.hid hout; replace hy0 := Lib.hid hy0; replace hy1 := Lib.hid hy1; replace hy2 := Lib.hid hy2; replace hy3 := Lib.hid hy3; replace hy4 := Lib.hid hy4; replace hsn := Lib.hid hsn; replace hlen := Lib.hid hlen; replace c0 := Lib.hid c0; replace c1 := Lib.hid c1; replace c2 := Lib.hid c2; replace c3 := Lib.hid c3
      clear hx
      replace h3 := Lib.hid h3
      have s0 := (h3.out.bel.cell (p := ⟨b, o + k * 4, none⟩) hbl).trans c0.out
      have s1 := (h3.out.bel.cell (p := ⟨b, o + k * 4 + 1, none⟩) hbl).trans c1.out
      have s2 := (h3.out.bel.cell (p := ⟨b, o + k * 4 + 2, none⟩) hbl).trans c2.out
      have s3 := (h3.out.bel.cell (p := ⟨b, o + k * 4 + 3, none⟩) hbl).trans c3.out
      go_wp2_with (fail)
      refine (RWB.uint h3.out _ x.sl.toNat (by first | rfl | (simp [IntKind.wrap, IntKind.signed, IntKind.bits]; omega)) (by omega) (by omega)).mono ?_
      rintro e Y1 ⟨rfl, h40⟩
      replace h40 := Lib.hid (h40.cast hy1.out.symm)
      clear s0 s1 s2 s3 z8 lU h3
      have z8 : Y1.cell? ⟨w.heap.size, 8, none⟩ = some (.slice (some ⟨b, o, none⟩) n c) := blkC h40.out.blk 8
      have lU := blkX h40.out.blk
      have s0 := (h40.out.bel.cell (p := ⟨b, o + k * 4, none⟩) hbl).trans c0.out
      have s1 := (h40.out.bel.cell (p := ⟨b, o + k * 4 + 1, none⟩) hbl).trans c1.out
      have s2 := (h40.out.bel.cell (p := ⟨b, o + k * 4 + 2, none⟩) hbl).trans c2.out
      have s3 := (h40.out.bel.cell (p := ⟨b, o + k * 4 + 3, none⟩) hbl).trans c3.out
      go_wp2_with (fail)
      refine (RWB.uint h40.out _ x.ro.toNat (by first | rfl | (simp [IntKind.wrap, IntKind.signed, IntKind.bits]; omega)) (by omega) (by omega)).mono ?_
      rintro e Y2 ⟨rfl, h41⟩
      replace h41 := Lib.hid (h41.cast hy2.out.symm)
      clear s0 s1 s2 s3 z8 lU h40
      have z8 : Y2.cell? ⟨w.heap.size, 8, none⟩ = some (.slice (some ⟨b, o, none⟩) n c) := blkC h41.out.blk 8
      have lU := blkX h41.out.blk
      have s0 := (h41.out.bel.cell (p := ⟨b, o + k * 4, none⟩) hbl).trans c0.out
      have s1 := (h41.out.bel.cell (p := ⟨b, o + k * 4 + 1, none⟩) hbl).trans c1.out
      have s2 := (h41.out.bel.cell (p := ⟨b, o + k * 4 + 2, none⟩) hbl).trans c2.out
      have s3 := (h41.out.bel.cell (p := ⟨b, o + k * 4 + 3, none⟩) hbl).trans c3.out
      go_wp2_with (fail)
      refine (RWB.uint h41.out _ x.no.toNat (by first | rfl | (simp [IntKind.wrap, IntKind.signed, IntKind.bits]; omega)) (by omega) (by omega)).mono ?_
      rintro e Y3 ⟨rfl, h42⟩
      replace h42 := Lib.hid (h42.cast hy3.out.symm)
      clear s0 s1 s2 s3 z8 lU h41
      have z8 : Y3.cell? ⟨w.heap.size, 8, none⟩ = some (.slice (some ⟨b, o, none⟩) n c) := blkC h42.out.blk 8
      have lU := blkX h42.out.blk
      have s0 := (h42.out.bel.cell (p := ⟨b, o + k * 4, none⟩) hbl).trans c0.out
      have s1 := (h42.out.bel.cell (p := ⟨b, o + k * 4 + 1, none⟩) hbl).trans c1.out
      have s2 := (h42.out.bel.cell (p := ⟨b, o + k * 4 + 2, none⟩) hbl).trans c2.out
      have s3 := (h42.out.bel.cell (p := ⟨b, o + k * 4 + 3, none⟩) hbl).trans c3.out
      go_wp2_with (fail)
      refine (RWB.text h42.out x.v (by omega) (by omega)).mono ?_
      rintro e Y4 ⟨rfl, h43⟩
      replace h43 := Lib.hid (h43.cast hy4.out.symm)
      clear s0 s1 s2 s3 z8 lU h42
      go_wp2_with (fail)
      exact ⟨⟨k + 1, by omega, by go_num, h43.out.cast hout.out⟩, by simp [intOf]; omega⟩
    · obtain rfl : k = n := by omega
      have hft : m.l.take k = m.l := by rw [hN.out, List.take_length]
      rw [hft, ← hfin.out] at h3
      have hk1 : ¬ (k : Int) < (k : Int) := by omega
      have Lf : (bytesM m).length ≤ 800000000 := by rw [hfin.out, List.length_append]; have := bEnts_len (l := m.l) hf.out.l; have := hN.out; omega
      obtain ⟨A1, c1, hi, -⟩ := h3.ex
      have hby := rBytes_any (w.heap.size + 1) A1 c1 (bytesM m) Y hi (by omega) (by omega)
      have bel := Lib.hid h3.bel
      replace hby := Lib.hid hby
      clear hi
      replace h3 := Lib.hid h3
      go_wp2_with (fail)
      refine hby.out.mono ?_
      rintro e w7 ⟨A7, c7, rfl, o7, b7⟩
      have hfn : IsBytes w A7 c7 (bytesM m) w7 := ⟨o7.mono bel.out.size, bel.out.trans (b7.mono bel.out.size)⟩
      replace hfn := Lib.hid hfn
      clear o7 b7
      go_wp2_with (fail)
      go_ret
      exact ⟨A7, c7, rfl, hfn.out⟩
end Go.Proofs.YtlinjanflenljaaGreatDoor

namespace Go.Proofs.YtlinjanflenljaaGreatDoor
open Go.RowKit
set_option linter.unusedSimpArgs false
set_option linter.unusedVariables false
set_option linter.unusedSectionVars false
set_option maxRecDepth 10000
theorem rwrite_any (m : Mg) (A : Option Addr) (c : Nat) (w : World) (h : argOK m = true) (hl : ¬ longM m = true) (hE : ES w A m.l.length m.l) :
    Calls Tryz.prog 47 #[.agg #[.int .i64 m.k, .int .i64 m.fr, .int .i64 m.tt, .int .i64 m.ro, .int .i64 m.no, .int .i64 m.sl, .int .i64 m.nu, .string (sOf m.v), .slice A m.l.length c]] w fun e w' => ∃ A' c', e = .returned (.slice A' (bytesM m).length c') ∧ IsBytes w A' c' (bytesM m) w' := by
  have hf := fit_of h hl
  have hd := hf.hd
  simp only [headOK, decide_eq_true_eq] at hd
  have hL := (argOK_parts h).2.2.2.2.2
  have hnil : uL m.k = false → m.l = [] := fun e => by unfold fL at hL; rw [e] at hL; exact of_decide_eq_true hL
  have hk : m.k = 1 ∨ m.k = 2 ∨ m.k = 3 ∨ m.k = 4 ∨ m.k = 5 ∨ m.k = 6 ∨ m.k = 7 ∨ m.k = 8 ∨ m.k = 9 ∨ m.k = 10 ∨ m.k = 11 := by omega
  rcases hk with e | e | e | e | e | e | e | e | e | e | e
  · exact rwrite_TTFFF m A c w hf hE (by rw [e]; rfl) (by rw [e]; rfl) (by rw [e]; rfl) (by rw [e]; rfl) (by rw [e]; rfl) (hnil (by rw [e]; rfl))
  · exact rwrite_TFTFT m A c w hf hE (by rw [e]; rfl) (by rw [e]; rfl) (by rw [e]; rfl) (by rw [e]; rfl) (by rw [e]; rfl)
  · exact rwrite_TFFFF m A c w hf hE (by rw [e]; rfl) (by rw [e]; rfl) (by rw [e]; rfl) (by rw [e]; rfl) (by rw [e]; rfl) (hnil (by rw [e]; rfl))
  · exact rwrite_TTFTF m A c w hf hE (by rw [e]; rfl) (by rw [e]; rfl) (by rw [e]; rfl) (by rw [e]; rfl) (by rw [e]; rfl) (hnil (by rw [e]; rfl))
  · exact rwrite_TTFFF m A c w hf hE (by rw [e]; rfl) (by rw [e]; rfl) (by rw [e]; rfl) (by rw [e]; rfl) (by rw [e]; rfl) (hnil (by rw [e]; rfl))
  · exact rwrite_FTFTF m A c w hf hE (by rw [e]; rfl) (by rw [e]; rfl) (by rw [e]; rfl) (by rw [e]; rfl) (by rw [e]; rfl) (hnil (by rw [e]; rfl))
  · exact rwrite_TFTFF m A c w hf hE (by rw [e]; rfl) (by rw [e]; rfl) (by rw [e]; rfl) (by rw [e]; rfl) (by rw [e]; rfl) (hnil (by rw [e]; rfl))
  · exact rwrite_FTFFF m A c w hf hE (by rw [e]; rfl) (by rw [e]; rfl) (by rw [e]; rfl) (by rw [e]; rfl) (by rw [e]; rfl) (hnil (by rw [e]; rfl))
  · exact rwrite_FFTTF m A c w hf hE (by rw [e]; rfl) (by rw [e]; rfl) (by rw [e]; rfl) (by rw [e]; rfl) (by rw [e]; rfl) (hnil (by rw [e]; rfl))
  · exact rwrite_FFTTF m A c w hf hE (by rw [e]; rfl) (by rw [e]; rfl) (by rw [e]; rfl) (by rw [e]; rfl) (by rw [e]; rfl) (hnil (by rw [e]; rfl))
  · exact rwrite_FFTTF m A c w hf hE (by rw [e]; rfl) (by rw [e]; rfl) (by rw [e]; rfl) (by rw [e]; rfl) (by rw [e]; rfl) (hnil (by rw [e]; rfl))
end Go.Proofs.YtlinjanflenljaaGreatDoor
