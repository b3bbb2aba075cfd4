/- The closures that write fields. -/
import Derived.Test.YtlinjanflenljaaGreatDoorFld
namespace Go.Proofs.YtlinjanflenljaaGreatDoor
open Go.RowKit
set_option linter.unusedSimpArgs false
set_option linter.unusedVariables false
set_option linter.unusedSectionVars false
set_option maxRecDepth 10000
set_option maxHeartbeats 2000000 in
theorem putBallot_any {w0 W : World} {g : Nat} {ks : List Kp} {ys : List UInt8} (h : PW w0 g ks ys W) (r n : Int) (hr : 0 ≤ r ∧ r ≤ 2147483647) (hn : 0 ≤ n ∧ n ≤ 2147483647) (hl : ys.length ≤ 900000000) :
    Calls Tryz.prog 60 #[.pointer (some ⟨g, 0, none⟩), .agg #[.int .i64 r, .int .i64 n]] W fun e w' => e = .returned (.tuple #[]) ∧ PW w0 g ks (ys ++ (enc r.toNat ++ enc n.toNat)) w' := by
  have h1 := h.new #[.int .i64 r, .int .i64 n] 25 (by decide)
  have el := enc_len (n := r.toNat) (by omega)
  have hl1 : (ys ++ enc r.toNat).length ≤ 1000000000 := by rw [List.length_append]; omega
  replace h1 := Lib.hid h1
  go_enter Tryz.func60, Tryz.ntmps60
  go_wp2_with (fail)
  refine (WB.uint h1.out _ r.toNat (by first | rfl | (simp [IntKind.wrap, IntKind.signed, IntKind.bits]; omega)) (by omega) (by omega)).mono ?_
  rintro e w1 ⟨rfl, h2⟩
  have p1 : w1.cell? ⟨W.heap.size, 1, none⟩ = some (.int .i64 n) := blkC h2.blk 1
  replace h2 := Lib.hid h2
  go_wp2_with (fail)
  refine (WB.uint h2.out _ n.toNat (by first | rfl | (simp [IntKind.wrap, IntKind.signed, IntKind.bits]; omega)) (by omega) hl1).mono ?_
  rintro e w2 ⟨rfl, h3⟩
  replace h3 := Lib.hid h3
  go_wp2_with (fail)
  go_end0
  exact ⟨rfl, h3.out.drop.cast (List.append_assoc ..)⟩
section
variable {w0 W : World} {g : Nat} {ks : List Kp} {ys : List UInt8} (m : Mg) (A : Option Addr) (c : Nat)
set_option maxHeartbeats 2000000 in
theorem wr0_any (h : PW w0 g ks ys W) (hr : 0 ≤ m.ro ∧ m.ro ≤ 2147483647) (hn : 0 ≤ m.no ∧ m.no ≤ 2147483647) (hl : ys.length ≤ 900000000) :
    Calls Tryz.prog 59 #[.pointer (some ⟨g, 0, none⟩), .agg #[.int .i64 m.k, .int .i64 m.fr, .int .i64 m.tt, .int .i64 m.ro, .int .i64 m.no, .int .i64 m.sl, .int .i64 m.nu, .string (sOf m.v), .slice A m.l.length c]] W fun e w' => e = .returned (.tuple #[]) ∧ PW w0 g ks (ys ++ fBytes 0 m) w' := by
  have h1 := h.new #[.int .i64 m.k, .int .i64 m.fr, .int .i64 m.tt, .int .i64 m.ro, .int .i64 m.no, .int .i64 m.sl, .int .i64 m.nu, .string (sOf m.v), .slice A m.l.length c] 28 (by decide)
  replace h1 := Lib.hid h1
  go_enter Tryz.func59, Tryz.ntmps59
  go_wp2_with (fail)
  refine (putBallot_any h1.out _ _ hr hn hl).mono ?_
  rintro e w1 ⟨rfl, h2⟩
  replace h2 := Lib.hid h2
  go_wp2_with (fail)
  go_end0
  exact ⟨rfl, h2.out.drop⟩
set_option maxHeartbeats 2000000 in
theorem wr1_any (h : PW w0 g ks ys W) (hr : 0 ≤ m.sl ∧ m.sl ≤ 2147483647) (hl : ys.length ≤ 900000000) :
    Calls Tryz.prog 67 #[.pointer (some ⟨g, 0, none⟩), .agg #[.int .i64 m.k, .int .i64 m.fr, .int .i64 m.tt, .int .i64 m.ro, .int .i64 m.no, .int .i64 m.sl, .int .i64 m.nu, .string (sOf m.v), .slice A m.l.length c]] W fun e w' => e = .returned (.tuple #[]) ∧ PW w0 g ks (ys ++ fBytes 1 m) w' := by
  have h1 := h.new #[.int .i64 m.k, .int .i64 m.fr, .int .i64 m.tt, .int .i64 m.ro, .int .i64 m.no, .int .i64 m.sl, .int .i64 m.nu, .string (sOf m.v), .slice A m.l.length c] 28 (by decide)
  replace h1 := Lib.hid h1
  go_enter Tryz.func67, Tryz.ntmps67
  go_wp2_with (fail)
  refine (WB.uint h1.out _ m.sl.toNat (by first | rfl | (simp [IntKind.wrap, IntKind.signed, IntKind.bits]; omega)) (by omega) (by omega)).mono ?_
  rintro e w1 ⟨rfl, h2⟩
  replace h2 := Lib.hid h2
  go_wp2_with (fail)
  go_end0
  exact ⟨rfl, h2.out.drop⟩
set_option maxHeartbeats 2000000 in
theorem wr2_any (h : PW w0 g ks ys W) (hr : 0 ≤ m.nu ∧ m.nu ≤ 2147483647) (hl : ys.length ≤ 900000000) :
    Calls Tryz.prog 73 #[.pointer (some ⟨g, 0, none⟩), .agg #[.int .i64 m.k, .int .i64 m.fr, .int .i64 m.tt, .int .i64 m.ro, .int .i64 m.no, .int .i64 m.sl, .int .i64 m.nu, .string (sOf m.v), .slice A m.l.length c]] W fun e w' => e = .returned (.tuple #[]) ∧ PW w0 g ks (ys ++ fBytes 2 m) w' := by
  have h1 := h.new #[.int .i64 m.k, .int .i64 m.fr, .int .i64 m.tt, .int .i64 m.ro, .int .i64 m.no, .int .i64 m.sl, .int .i64 m.nu, .string (sOf m.v), .slice A m.l.length c] 28 (by decide)
  replace h1 := Lib.hid h1
  go_enter Tryz.func73, Tryz.ntmps73
  go_wp2_with (fail)
  refine (WB.uint h1.out _ m.nu.toNat (by first | rfl | (simp [IntKind.wrap, IntKind.signed, IntKind.bits]; omega)) (by omega) (by omega)).mono ?_
  rintro e w1 ⟨rfl, h2⟩
  replace h2 := Lib.hid h2
  go_wp2_with (fail)
  go_end0
  exact ⟨rfl, h2.out.drop⟩
set_option maxHeartbeats 2000000 in
theorem wr3_any (h : PW w0 g ks ys W) (hv : m.v.length ≤ 65536) (hl : ys.length ≤ 900000000) :
    Calls Tryz.prog 78 #[.pointer (some ⟨g, 0, none⟩), .agg #[.int .i64 m.k, .int .i64 m.fr, .int .i64 m.tt, .int .i64 m.ro, .int .i64 m.no, .int .i64 m.sl, .int .i64 m.nu, .string (sOf m.v), .slice A m.l.length c]] W fun e w' => e = .returned (.tuple #[]) ∧ PW w0 g ks (ys ++ fBytes 3 m) w' := by
  have h1 := h.new #[.int .i64 m.k, .int .i64 m.fr, .int .i64 m.tt, .int .i64 m.ro, .int .i64 m.no, .int .i64 m.sl, .int .i64 m.nu, .string (sOf m.v), .slice A m.l.length c] 28 (by decide)
  replace h1 := Lib.hid h1
  go_enter Tryz.func78, Tryz.ntmps78
  go_wp2_with (fail)
  refine (WB.text h1.out m.v (by omega) hl).mono ?_
  rintro e w1 ⟨rfl, h2⟩
  replace h2 := Lib.hid h2
  go_wp2_with (fail)
  go_end0
  exact ⟨rfl, h2.out.drop⟩
end
theorem bEnts_app : ∀ (a b : List Ent), bEnts (a ++ b) = bEnts a ++ bEnts b
  | [], b => rfl
  | e :: a, b => by simp [bEnts, bEnts_app a b]
theorem bEnts_snoc {l : List Ent} {i : Nat} {e : Ent} (h : l[i]? = some e) : bEnts (l.take (i + 1)) = bEnts (l.take i) ++ bEnt e := by
  rw [List.take_add_one, h, bEnts_app]
  show _ ++ bEnts [e] = _
  simp [bEnts]
/-- An entry that is valid and not too long. -/
def fitE (e : Ent) : Prop := (0 ≤ e.sl ∧ e.sl ≤ 2147483647) ∧ (0 ≤ e.ro ∧ e.ro ≤ 2147483647) ∧ (0 ≤ e.no ∧ e.no ≤ 2147483647) ∧ e.v.length ≤ 65536
theorem bEnt_len {e : Ent} (h : fitE e) : (bEnt e).length ≤ 65600 := by
  obtain ⟨h1, h2, h3, h4⟩ := h
  have a := enc_len (n := e.sl.toNat) (by omega)
  have b := enc_len (n := e.ro.toNat) (by omega)
  have c := enc_len (n := e.no.toNat) (by omega)
  have d := enc_len (n := e.v.length) (by omega)
  simp only [bEnt, List.length_append]
  omega
theorem bEnts_len : ∀ {l : List Ent}, (∀ e ∈ l, fitE e) → (bEnts l).length ≤ 65600 * l.length
  | [], _ => by simp [bEnts]
  | e :: l, h => by
    have h1 := bEnt_len (h e (by simp))
    have h2 := bEnts_len (l := l) fun x hx => h x (by simp [hx])
    simp only [bEnts, List.length_append, List.length_cons]
    omega
set_option maxHeartbeats 8000000 in
theorem putList_any {w0 W : World} {g : Nat} {ks : List Kp} {ys : List UInt8} (m : Mg) (A : Option Addr) (c : Nat) (h : PW w0 g ks ys W) (hE : ES w0 A m.l.length m.l) (hf : ∀ e ∈ m.l, fitE e) (hn : m.l.length ≤ 4096) (hl : ys.length ≤ 500000000) :
    Calls Tryz.prog 86 #[.pointer (some ⟨g, 0, none⟩), .agg #[.int .i64 m.k, .int .i64 m.fr, .int .i64 m.tt, .int .i64 m.ro, .int .i64 m.no, .int .i64 m.sl, .int .i64 m.nu, .string (sOf m.v), .slice A m.l.length c]] W fun e w' => e = .returned (.tuple #[]) ∧ PW w0 g ks (ys ++ fBytes 4 m) w' := by
  have h1 := h.new #[.int .i64 m.k, .int .i64 m.fr, .int .i64 m.tt, .int .i64 m.ro, .int .i64 m.no, .int .i64 m.sl, .int .i64 m.nu, .string (sOf m.v), .slice A m.l.length c] 28 (by decide)
  have el := enc_len (n := m.l.length) (by omega)
  have hfin : fBytes 4 m = enc m.l.length ++ bEnts m.l := rfl
  obtain ⟨n, hN⟩ : ∃ n, n = m.l.length := ⟨_, rfl⟩
  rw [← hN] at hE hn h1 el hfin
  replace h1 := Lib.hid h1; replace hE := Lib.hid hE; replace hN := Lib.hid hN; replace hf := Lib.hid hf; replace hfin := Lib.hid hfin
  go_enter Tryz.func86, Tryz.ntmps86
  rw [← hN.out]
  go_wp2_with (fail)
  refine (WB.uint h1.out _ n (by first | rfl | (simp [IntKind.wrap, IntKind.signed, IntKind.bits]; omega)) (by omega) (by omega)).mono ?_
  rintro e w1 ⟨rfl, h2⟩
  have p7 : w1.cell? ⟨W.heap.size, 7, none⟩ = some (.string (sOf m.v)) := blkC h2.blk 7
  have p8 : w1.cell? ⟨W.heap.size, 8, none⟩ = some (.slice A n c) := blkC h2.blk 8
  replace h2 := Lib.hid h2
  go_wp2_with (fail)
  go_loopw [15] (fun i wr => ∃ k : Nat, k ≤ n ∧ i = .int .i64 k ∧ PW w0 g ((W.heap.size, #[.int .i64 m.k, .int .i64 m.fr, .int .i64 m.tt, .int .i64 m.ro, .int .i64 m.no, .int .i64 m.sl, .int .i64 m.nu, .string (sOf m.v), .slice A n c], 28) :: ks) (ys ++ enc n ++ bEnts (m.l.take k)) wr) (fun i _ => n - (intOf i).toNat)
  case atStart => exact ⟨0, by omega, rfl, h2.out.cast (by simp [bEnts])⟩
  case round =>
    revert wr
    intro W1 hrel
    obtain ⟨k, hk, rfl, h3⟩ := hrel
    clear h2 p7 p8
    by_cases hlt : k < n
    · obtain ⟨b, o, x, rfl, hbl, hx, c0, c1, c2, c3⟩ := ES.at_ (WB.es h3 hE.out) hlt
      have hfx := hf.out x (List.mem_of_getElem? hx)
      have hsn := bEnts_snoc hx
      have hlen := bEnts_len (l := m.l.take k) fun y hy => hf.out y (List.mem_of_mem_take hy)
      rw [List.length_take] at hlen
      obtain ⟨f1, f2, f3, f4⟩ := hfx
      have i0 := enc_len (n := x.sl.toNat) (by omega)
      have i1 := enc_len (n := x.ro.toNat) (by omega)
      have i2 := enc_len (n := x.no.toNat) (by omega)
      have k0 : (0 : Int) ≤ k := by omega
      have k1 : (k : Int) < (n : Int) := by omega
      have L0 : (ys ++ enc n ++ bEnts (m.l.take k)).length ≤ 800000000 := by simp only [List.length_append]; omega
      have h4 := h3.new #[.int .i64 x.sl, .int .i64 x.ro, .int .i64 x.no, .string (sOf x.v)] 45 (by decide)
      generalize hz : ys ++ enc n ++ bEnts (m.l.take k) = zs at *
      replace h3 := Lib.hid h3; replace h4 := Lib.hid h4; replace hz := Lib.hid hz; replace hsn := Lib.hid hsn; replace hlen := Lib.hid hlen
      clear hx
      go_wp2_with (fail)
      refine (WB.uint h4.out _ x.sl.toNat (by first | rfl | (simp [IntKind.wrap, IntKind.signed, IntKind.bits]; omega)) (by omega) (by omega)).mono ?_
      rintro e w2 ⟨rfl, h5⟩
      have q1 : w2.cell? ⟨W1.heap.size, 1, none⟩ = some (.int .i64 x.ro) := blkC h5.blk 1
      have q2 : w2.cell? ⟨W1.heap.size, 2, none⟩ = some (.int .i64 x.no) := blkC h5.blk 2
      have L1 : (zs ++ enc x.sl.toNat).length ≤ 900000000 := by rw [List.length_append]; omega
      replace h5 := Lib.hid h5
      go_wp2_with (fail)
      refine (putBallot_any h5.out _ _ f2 f3 L1).mono ?_
      rintro e w3 ⟨rfl, h6⟩
      have q3 : w3.cell? ⟨W1.heap.size, 3, none⟩ = some (.string (sOf x.v)) := blkC h6.blk 3
      have L2 : (zs ++ enc x.sl.toNat ++ (enc x.ro.toNat ++ enc x.no.toNat)).length ≤ 900000000 := by simp only [List.length_append]; omega
      replace h6 := Lib.hid h6
      clear q1 q2
      go_wp2_with (fail)
      refine (WB.text h6.out x.v (by omega) L2).mono ?_
      rintro e w4 ⟨rfl, h7⟩
      replace h7 := Lib.hid h7
      go_wp2_with (fail)
      refine ⟨⟨k + 1, by omega, by go_num, h7.out.drop.cast ?_⟩, by simp [intOf]; omega⟩
      rw [← hz.out, hsn.out]
      simp only [bEnt, List.append_assoc]
    · obtain rfl : k = n := by omega
      have hfin2 : m.l.take k = m.l := by rw [hN.out, List.take_length]
      rw [hfin2] at h3
      replace h3 := Lib.hid h3
      go_wp2_with (fail)
      go_end0
      exact ⟨rfl, h3.out.drop.cast (by rw [hfin.out, List.append_assoc])⟩
end Go.Proofs.YtlinjanflenljaaGreatDoor
