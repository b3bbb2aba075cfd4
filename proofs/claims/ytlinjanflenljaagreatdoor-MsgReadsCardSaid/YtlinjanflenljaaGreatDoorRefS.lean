/- The reference's reader: its block of memory, and Uint. -/
import Derived.Test.YtlinjanflenljaaGreatDoorRd
import Derived.Test.YtlinjanflenljaaGreatDoorRefX
import Derived.Deep.RegionWith
import Derived.Deep.QuietTactic
import Derived.BigQuiet
namespace Go.Proofs.YtlinjanflenljaaGreatDoor
open Go.RowKit
set_option linter.unusedSimpArgs false
set_option linter.unusedVariables false
set_option linter.unusedSectionVars false
set_option maxRecDepth 10000
attribute [local go_sem ↓] hideAppend

/-- Block g is a reader of the reference. -/
structure IsRr (w : World) (g : Nat) (A : Option Addr) (c : Nat) (s : RS) : Prop where
  blk : w.heap[g]? = some (.cells #[.bool true, .slice A (left s).length c, .bool s.isNone] 99 (0, 0))
  rb : RB w A (left s).length (left s)
  cap : (left s).length ≤ c
  len : (left s).length ≤ 70368744177664
  typ : RowTy w A (left s).length
theorem rr_noByte (b : Bool) (A : Option Addr) (n c : Nat) (i : Nat) (x : UInt8) : (#[.bool true, .slice A n c, .bool b] : Array Value)[i]? ≠ some (bv x) := by
  intro h
  rcases i with _ | _ | _ | i <;> simp [bv] at h
section
variable {w w' : World} {g c : Nat} {A : Option Addr} {s : RS}
theorem IsRr.lt (h : IsRr w g A c s) : g < w.heap.size := blkX h.blk
theorem IsRr.c0 (h : IsRr w g A c s) : w.cell? ⟨g, 0, none⟩ = some (.bool true) := blkC h.blk 0
theorem IsRr.c1 (h : IsRr w g A c s) : w.cell? ⟨g, 1, none⟩ = some (.slice A (left s).length c) := blkC h.blk 1
theorem IsRr.c2 (h : IsRr w g A c s) : w.cell? ⟨g, 2, none⟩ = some (.bool s.isNone) := blkC h.blk 2
theorem IsRr.fz (h : IsRr w g A c s) (i : Nat) : w.frozen? ⟨g, i, none⟩ = false := blkF h.blk i
theorem IsRr.keep {S : Nat → Prop} (h : IsRr w g A c s) (hc : Chg S w w') (hg : ¬ S g) (hr : ∀ k, rowOf A = some k → ¬ S k) : IsRr w' g A c s :=
  ⟨(hc.block g h.lt hg).trans h.blk, h.rb.chg hc hr, h.cap, h.len, h.typ.keepR hc hr⟩
theorem IsRr.below (h : IsRr w g A c s) (hb : Below w.heap.size w w') : IsRr w' g A c s := h.keep (Chg.of_below hb fun _ => False) (fun q => q) (fun _ _ q => q)
def RrTo (w : World) (g : Nat) (s : RS) (w' : World) : Prop := ∃ A' c', IsRr w' g A' c' s ∧ Chg (fun k => k = g) w w'
theorem RrTo.refl (h : IsRr w g A c s) : RrTo w g s w := ⟨A, c, h, Chg.refl _ w⟩
theorem RrTo.after {w1 : World} (hb : Below w.heap.size w w1) (h : RrTo w1 g s w') : RrTo w g s w' := by
  obtain ⟨A', c', h1, h2⟩ := h
  exact ⟨A', c', h1, (Chg.of_below hb _).trans h2 fun _ _ e => e⟩
theorem IsRr.failed (h : IsRr w g A c s) : RrTo w g none ((w.setCell ⟨g, 2, none⟩ (.bool true)).setCell ⟨g, 1, none⟩ (.slice none 0 0)) := by
  refine ⟨none, 0, ⟨?_, ⟨rfl, fun h => absurd h (by decide)⟩, by simp [left], by simp [left], fun h => absurd h (by decide)⟩, (setG w g 2 _).trans (setG _ g 1 _) fun k _ e => e⟩
  have h1 := hpSet (i := 2) (v := .bool true) h.blk
  have h2 := hpSet (i := 1) (v := .slice none 0 0) h1
  simpa [left] using h2
theorem IsRr.cutTo (h : IsRr w g A c s) {k : Nat} (hk : k ≤ (left s).length) {s' : RS} (hs : s.isNone = s'.isNone) (hl : left s' = (left s).drop k) :
    RrTo w g s' (w.setCell ⟨g, 1, none⟩ (.slice (if c = k then A else A.map fun x => x.add k) ((left s).length - k) (c - k))) := by
  have hlen : (left s').length = (left s).length - k := by rw [hl, List.length_drop]
  have h1 := hpSet (i := 1) (v := .slice (if c = k then A else A.map fun x => x.add k) ((left s).length - k) (c - k)) h.blk
  have hcap := h.cap
  have hln := h.len
  refine ⟨(if c = k then A else A.map fun x => x.add k), c - k, ⟨?_, ?_, by omega, by omega, ?_⟩, setG w g 1 _⟩
  · rw [← hs, hlen]; simpa using h1
  · have hr := h.rb.cut (k := k) hk h.cap
    rw [← hl] at hr
    rw [hlen]
    exact hr.setOther h.blk (rr_noByte _ _ _ _) (setG w g 1 _)
  · rw [hlen]
    exact (h.typ.cut (c := c)).keep (setG w g 1 _) fun q e cs fr hb => by subst e; rw [h.blk] at hb; injection hb with hb; injection hb with _ hb; exact absurd hb (by decide)
set_option maxHeartbeats 1000000 in
theorem rvalid_p (h : IsRr w g A c s) : Calls Tryz.prog 89 #[.pointer (some ⟨g, 0, none⟩)] w fun e w' => e = .returned (.bool true) ∧ w = w' := by
  have c0 := h.c0
  go_enter Tryz.func89, Tryz.ntmps89
  go_wp2
  go_ret
  exact ⟨rfl, rfl⟩
set_option maxHeartbeats 1000000 in
theorem rfail_p (h : IsRr w g A c s) : Calls Tryz.prog 91 #[.pointer (some ⟨g, 0, none⟩)] w fun e w' => e = .returned (.tuple #[]) ∧ RrTo w g none w' := by
  have c1 := h.c1; have c2 := h.c2; have f1 := h.fz 1; have f2 := h.fz 2
  have hfin := Lib.hid h.failed
  go_enter Tryz.func91, Tryz.ntmps91
  go_wp2_with (go_at_call 89; refine (rvalid_p h).mono ?_; rintro e w' ⟨rfl, rfl⟩)
  go_end0
  exact ⟨rfl, hfin.out⟩
set_option maxHeartbeats 1000000 in
theorem rleft_p (h : IsRr w g A c s) : Calls Tryz.prog 39 #[.pointer (some ⟨g, 0, none⟩)] w fun e w' => e = .returned (.int .i64 (left s).length) ∧ w = w' := by
  have c1 := h.c1; have c2 := h.c2
  match s with
  | none =>
    simp only [Option.isNone_none, left, List.length_nil] at c1 c2
    go_enter Tryz.func39, Tryz.ntmps39
    go_wp2_with (go_at_call 89; refine (rvalid_p h).mono ?_; rintro e w' ⟨rfl, rfl⟩)
    go_ret
    exact ⟨rfl, rfl⟩
  | some b =>
    simp only [Option.isNone_some] at c2
    go_enter Tryz.func39, Tryz.ntmps39
    go_wp2_with (go_at_call 89; refine (rvalid_p h).mono ?_; rintro e w' ⟨rfl, rfl⟩)
    go_ret
    exact ⟨rfl, rfl⟩
set_option maxHeartbeats 1000000 in
theorem rend_p (h : IsRr w g A c s) : Calls Tryz.prog 40 #[.pointer (some ⟨g, 0, none⟩)] w fun e w' => e = .returned (.int .i64 (endE' s)) ∧ w = w' := by
  have c1 := h.c1; have c2 := h.c2
  match s with
  | none =>
    simp only [Option.isNone_none, left, List.length_nil] at c1 c2
    go_enter Tryz.func40, Tryz.ntmps40
    go_wp2_with (go_at_call 89; refine (rvalid_p h).mono ?_; rintro e w' ⟨rfl, rfl⟩)
    go_ret
    exact ⟨rfl, rfl⟩
  | some [] =>
    simp only [Option.isNone_some, left, List.length_nil] at c1 c2
    go_enter Tryz.func40, Tryz.ntmps40
    go_wp2_with (go_at_call 89; refine (rvalid_p h).mono ?_; rintro e w' ⟨rfl, rfl⟩)
    go_ret
    exact ⟨rfl, rfl⟩
  | some (x :: l) =>
    have hp : 0 < (left (some (x :: l))).length := by simp [left]
    simp only [Option.isNone_some] at c2
    have h' := Lib.hid h
    generalize (left (some (x :: l))).length = n at c1 hp
    go_enter Tryz.func40, Tryz.ntmps40
    go_wp2_with (go_at_call 89; refine (rvalid_p h'.out).mono ?_; rintro e w' ⟨rfl, rfl⟩)
    go_ret
    exact ⟨rfl, rfl⟩
end
def vOf (acc k x : Nat) : Nat := acc + x % 128 * 2 ^ (7 * k) % 18446744073709551616
theorem vOf_eq {acc k x : Nat} (hx : x < 256) (hk : k ≤ 9) (ha : acc < 2 ^ (7 * k)) : IntKind.u64.wrap ((acc : Int) + IntKind.u64.wrap ((x : Int) % 128 * 2 ^ (7 * k))) = ((vOf acc k x : Nat) : Int) ∧ vOf acc k x < 18446744073709551616 ∧
    (k < 9 ∨ x ≤ 1 → vOf acc k x = acc + x % 128 * 2 ^ (7 * k)) ∧ (k < 9 → vOf acc k x < 2 ^ (7 * (k + 1))) := by
  have hlt : k < 9 → acc + x % 128 * 2 ^ (7 * k) < 2 ^ (7 * (k + 1)) := by
    intro _
    rw [pow_step]
    have h2 : (x % 128 + 1) * 2 ^ (7 * k) ≤ 128 * 2 ^ (7 * k) := Nat.mul_le_mul_right _ (by omega)
    rw [Nat.add_mul, Nat.one_mul] at h2
    omega
  have h63 : k < 9 → 2 ^ (7 * (k + 1)) ≤ 2 ^ 63 := fun h => Nat.pow_le_pow_right (by omega) (by omega)
  have hv : vOf acc k x < 18446744073709551616 ∧ (k < 9 ∨ x ≤ 1 → vOf acc k x = acc + x % 128 * 2 ^ (7 * k)) := by
    unfold vOf
    rcases Nat.lt_or_ge k 9 with q | q
    · have h1 := hlt q
      have h2 := h63 q
      rw [Nat.mod_eq_of_lt (by omega)]
      exact ⟨by omega, fun _ => rfl⟩
    · have e : k = 9 := by omega
      subst e
      constructor
      · omega
      · intro h; omega
  refine ⟨?_, hv.1, hv.2, fun q => by rw [hv.2 (.inl q)]; exact hlt q⟩
  rw [wrapU8, wrapU8]
  rw [show ((x : Int) % 128 * 2 ^ (7 * k)) = ((x % 128 * 2 ^ (7 * k) : Nat) : Int) from by push_cast; rfl]
  have h1 := hv.1
  unfold vOf at h1 ⊢
  generalize x % 128 * 2 ^ (7 * k) = p at *
  omega
set_option maxHeartbeats 1000000 in
theorem rUintR_none {w : World} {g c : Nat} {A : Option Addr} (h : IsRr w g A c none) : Calls Tryz.prog 35 #[.pointer (some ⟨g, 0, none⟩)] w fun e w' => e = .returned (.int .u64 0) ∧ RrTo w g none w' := by
  have c2 := h.c2
  simp only [Option.isNone_none] at c2
  have hfin := Lib.hid (RrTo.refl h)
  go_enter Tryz.func35, Tryz.ntmps35
  go_wp2_with (go_at_call 89; refine (rvalid_p h).mono ?_; rintro e w' ⟨rfl, rfl⟩)
  go_ret
  exact ⟨rfl, hfin.out⟩
set_option maxHeartbeats 1000000 in
theorem rUintR_some {w : World} {g c : Nat} {A : Option Addr} (b : List UInt8) (h : IsRr w g A c (some b)) : Calls Tryz.prog 35 #[.pointer (some ⟨g, 0, none⟩)] w fun e w' => e = .returned (.int .u64 (rdU (some b)).1) ∧ RrTo w g (rdU (some b)).2 w' := by
  have c1 := h.c1; have c2 := h.c2; have f1 := h.fz 1
  have hrb := h.rb; have hcap := h.cap; have hlen := h.len
  simp only [Option.isNone_some, left] at c1 c2 hrb hcap hlen
  have hl := Lib.hid hrb.1
  generalize hn : b.length = n at c1 hrb hcap hlen
  replace hn := Lib.hid hn
  go_enter Tryz.func35, Tryz.ntmps35
  go_wp2_with (go_at_call 89; refine (rvalid_p h).mono ?_; rintro e w' ⟨rfl, rfl⟩)
  go_loop [3, 4] (fun a i => ∃ k acc : Nat, k ≤ n ∧ k ≤ 10 ∧ i = .int .i64 k ∧ a = .int .u64 acc ∧ (k ≤ 9 → acc < 2 ^ (7 * k)) ∧ acc < 18446744073709551616 ∧ (if k ≤ 9 then decGo k acc (b.drop k) else none) = dec b) (fun _ i => n - (intOf i).toNat)
  case atStart => exact ⟨0, 0, by omega, by omega, rfl, rfl, by simp, by omega, rfl⟩
  case round =>
    obtain ⟨k, acc, hk, hk10, rfl, rfl, hacc, hacc2, hdec⟩ := hrel
    replace hdec := Lib.hid hdec
    replace hacc := Lib.hid hacc
    by_cases hlt : k < n ∧ k < 10
    · obtain ⟨hlt, hlt10⟩ := hlt
      obtain ⟨ad, x, rfl, hx, hc⟩ := hrb.at_ hlt
      have hxl : x.toNat < 256 := x.toNat_lt
      replace hx := Lib.hid hx
      have hk9 : 7 * (k : Int) < 64 := by omega
      have hst := decGo_step (acc := acc) hx.out
      have hdec' := hdec.out
      rw [if_pos (by omega)] at hdec'
      rw [hdec'] at hst
      obtain ⟨hV, hv64, hveq, hv7⟩ := vOf_eq (x := x.toNat) hxl (by omega) (hacc.out (by omega))
      generalize hvv : vOf acc k x.toNat = v at *
      clear hdec' hvv
      by_cases hs : x.toNat < 128
      · have hcase : (dec b = some (v, k + 1) ∧ enc v = b.take (k + 1)) ∨ (dec b = none ∧ enc v ≠ b.take (k + 1)) := by
          by_cases hbad : (k = 9 ∧ 1 < x.toNat) ∨ (0 < k ∧ x.toNat = 0)
          · rw [if_pos hbad] at hst
            exact .inr ⟨hst, dec_none hst v hv64 (k + 1)⟩
          · rw [if_neg hbad, if_pos hs, ← hveq (by omega)] at hst
            exact .inl ⟨hst, (dec_sound hst).2.1⟩
        replace hst := Lib.hid hst
        replace hveq := Lib.hid hveq
        replace hv7 := Lib.hid hv7
        have hsi : (x.toNat : Int) < 128 := by omega
        have s1 := (hrb.first (k := k + 1) (by omega))
        have s2 := s1.str c
        have s3 := (show RB w.drew (some ad) (k + 1) (b.take (k + 1)) from s1).str c
        rcases hcase with ⟨hd, he⟩ | ⟨hd, he⟩
        · have hfin := Lib.hid (rdU_ok hd)
          rw [← he] at s1 s2 s3
          have hkb := Lib.hid (show k + 1 ≤ (left (some b)).length from by simp only [left]; rw [hn.out]; omega)
          replace he := Lib.hid he
          replace hd := Lib.hid hd
          by_cases hck : c = k + 1
          · subst hck
            clear hdec hacc hx hrb
            go_wp2_with (fail)
            have q2 : (0 : Int) ≤ (k : Int) + 1 := by omega
            have q1 : IntKind.i64.wrap ((k : Int) + 1) = (k : Int) + 1 := IntWalk.i64_in _ (by omega)
            have q4 : ((k : Int) + 1).toNat = k + 1 := by omega
            go_region_with (first | (go_at_call 90; refine (number_any v _ hv64).mono ?_; rintro e w1 ⟨A1, k1, rfl, r1⟩; have t1 := (RB.of_own r1.1).str k1; have t2 := (s1.below (w := w.drew) r1.2).str (k + 1); have h1 : IsRr w1 g (some ad) (k + 1) (some b) := (show IsRr w.drew g (some ad) (k + 1) (some b) from ⟨h.blk, h.rb, h.cap, h.len, h.typ⟩).below r1.2; have t3 := h1.c1; have t4 := h1.fz 1; simp only [left] at t3; rw [hn.out] at t3; have hb1 : Below w.heap.size w w1 := ⟨r1.2.os, r1.2.tape, r1.2.output, r1.2.size, r1.2.block⟩))
            all_goals clear s1 s2 s3 t1 t2 hV
            all_goals go_wp2_with (fail)
            all_goals go_ret
            all_goals
              have hq := h1.cutTo (k := k + 1) hkb.out (s' := some (b.drop (k + 1))) rfl rfl
              simp only [left, if_true] at hq
              rw [hn.out, show n - (k + 1) = 0 from by omega, Nat.sub_self] at hq
              exact ⟨by rw [hfin.out]; rfl, by rw [hfin.out]; exact hq.after hb1⟩
          · clear hdec hacc hx hrb
            go_wp2_with (fail)
            have q2 : (0 : Int) ≤ (k : Int) + 1 := by omega
            have q3 : (k : Int) + 1 ≤ (c : Int) := by omega
            have q1 : IntKind.i64.wrap ((k : Int) + 1) = (k : Int) + 1 := IntWalk.i64_in _ (by omega)
            have q4 : ((k : Int) + 1).toNat = k + 1 := by omega
            go_region_with (first | (go_at_call 90; refine (number_any v _ hv64).mono ?_; rintro e w1 ⟨A1, k1, rfl, r1⟩; have t1 := (RB.of_own r1.1).str k1; have t2 := (s1.below (w := w.drew) r1.2).str c; have h1 : IsRr w1 g (some ad) c (some b) := (show IsRr w.drew g (some ad) c (some b) from ⟨h.blk, h.rb, h.cap, h.len, h.typ⟩).below r1.2; have t3 := h1.c1; have t4 := h1.fz 1; simp only [left] at t3; rw [hn.out] at t3; have hb1 : Below w.heap.size w w1 := ⟨r1.2.os, r1.2.tape, r1.2.output, r1.2.size, r1.2.block⟩))
            all_goals clear s1 s2 s3 t1 t2 hV
            all_goals go_wp2_with (fail)
            all_goals go_ret
            all_goals
              have hq := h1.cutTo (k := k + 1) hkb.out (s' := some (b.drop (k + 1))) rfl rfl
              simp only [left] at hq
              rw [hn.out, if_neg hck] at hq
              exact ⟨by rw [hfin.out]; rfl, by rw [hfin.out]; exact hq.after hb1⟩
        · have hfin := Lib.hid (rdU_bad hd)
          have heb : (enc v == b.take (k + 1)) = false := by rw [Bool.eq_false_iff]; intro q; exact he (eq_of_beq q)
          generalize b.take (k + 1) = tk at *
          replace he := Lib.hid he
          replace hd := Lib.hid hd
          clear hdec hacc hx hrb
          go_wp2_with (fail)
          have q2 : (0 : Int) ≤ (k : Int) + 1 := by omega
          have q3 : (k : Int) + 1 ≤ (c : Int) := by omega
          have q1 : IntKind.i64.wrap ((k : Int) + 1) = (k : Int) + 1 := IntWalk.i64_in _ (by omega)
          have q4 : ((k : Int) + 1).toNat = k + 1 := by omega
          go_region_with (first | (go_at_call 90; refine (number_any v _ hv64).mono ?_; rintro e w1 ⟨A1, k1, rfl, r1⟩; have t1 := (RB.of_own r1.1).str k1; have t2 := (s1.below (w := w.drew) r1.2).str c; have h1 : IsRr w1 g (some ad) c (some b) := (show IsRr w.drew g (some ad) c (some b) from ⟨h.blk, h.rb, h.cap, h.len, h.typ⟩).below r1.2; have t3 := h1.c1; have t4 := h1.fz 1; simp only [left] at t3; rw [hn.out] at t3; have hb1 : Below w.heap.size w w1 := ⟨r1.2.os, r1.2.tape, r1.2.output, r1.2.size, r1.2.block⟩))
          all_goals clear s1 s2 s3 t1 t2 hV
          all_goals go_wp2_with (go_at_call 91; refine (rfail_p h1).mono ?_; rintro e w2 ⟨rfl, ht⟩)
          all_goals go_ret
          all_goals exact ⟨by rw [hfin.out]; rfl, by rw [hfin.out]; exact ht.after hb1⟩
      · have hnb : ¬ ((k = 9 ∧ 1 < x.toNat) ∨ (0 < k ∧ x.toNat = 0)) ∨ k = 9 := by omega
        have hnext := Lib.hid (show (if k + 1 ≤ 9 then decGo (k + 1) v (b.drop (k + 1)) else none) = dec b from by
          by_cases q : k = 9
          · rw [if_neg (by omega), hst, if_pos (by omega)]
          · rw [if_pos (by omega), hst, if_neg (by omega), if_neg hs, hveq (by omega)])
        have hv7' := Lib.hid (show k + 1 ≤ 9 → v < 2 ^ (7 * (k + 1)) from fun q => hv7 (by omega))
        have hsi : ¬ (x.toNat : Int) < 128 := by omega
        clear hst hveq hv7 hdec hacc hx
        go_wp2_with (fail)
        go_round
        case rel => exact ⟨k + 1, v, by omega, by omega, by go_num, rfl, hv7'.out, hv64, hnext.out⟩
        case measure => simp [intOf]; omega
    · have hd : dec b = none := by
        rw [← hdec.out]
        split
        · rw [List.drop_eq_nil_of_le (by rw [hn.out]; omega)]; rfl
        · rfl
      have hfin := Lib.hid (rdU_bad hd)
      replace hd := Lib.hid hd
      by_cases q1 : k < n
      · have q2 : ¬ k < 10 := by omega
        clear hlt hdec hacc hrb
        go_wp2_with (go_at_call 91; refine (rfail_p h).mono ?_; rintro e w2 ⟨rfl, ht⟩)
        go_ret
        exact ⟨by rw [hfin.out]; rfl, by rw [hfin.out]; exact ht⟩
      · clear hlt hdec hacc hrb
        go_wp2_with (go_at_call 91; refine (rfail_p h).mono ?_; rintro e w2 ⟨rfl, ht⟩)
        go_ret
        exact ⟨by rw [hfin.out]; rfl, by rw [hfin.out]; exact ht⟩
theorem rUintR_any {w : World} {g c : Nat} {A : Option Addr} (s : RS) (h : IsRr w g A c s) : Calls Tryz.prog 35 #[.pointer (some ⟨g, 0, none⟩)] w fun e w' => e = .returned (.int .u64 (rdU s).1) ∧ RrTo w g (rdU s).2 w' := by
  match s, h with
  | none, h => exact rUintR_none h
  | some b, h => exact rUintR_some b h
end Go.Proofs.YtlinjanflenljaaGreatDoor

namespace Go.Proofs.YtlinjanflenljaaGreatDoor
open Go.RowKit
set_option linter.unusedSimpArgs false
set_option linter.unusedVariables false
set_option linter.unusedSectionVars false
set_option maxRecDepth 10000
attribute [local go_sem ↓] hideAppend
theorem rdU_lt (s : RS) : (rdU s).1 < 18446744073709551616 := by
  match s with
  | none => simp [rdU]
  | some b =>
    rcases dec_or b with hd | ⟨v, k, hd⟩
    · rw [rdU_bad hd]; simp
    · rw [rdU_ok hd]; have := (dec_sound hd).1; omega
theorem RrTo.then {w w1 w2 : World} {g : Nat} {s s' : RS} (hc : Chg (fun k => k = g) w w1) (h : RrTo w1 g s w2) : RrTo w g s w2 := by
  obtain ⟨A', c', h1, h2⟩ := h
  exact ⟨A', c', h1, hc.trans h2 fun _ _ e => e⟩
theorem rdB_cases (s : RS) : ((rdU s).2 = none ∧ (rdU s).1 = 0 ∧ rdB s = (false, none)) ∨ (1 < (rdU s).1 ∧ rdB s = (false, none)) ∨ (¬ 1 < (rdU s).1 ∧ rdB s = ((rdU s).1 == 1, (rdU s).2)) := by
  match s with
  | none => exact .inl ⟨rfl, rfl, rfl⟩
  | some b =>
    rcases dec_or b with hd | ⟨v, k, hd⟩
    · rw [rdU_bad hd, rdB_bad hd]; exact .inl ⟨rfl, rfl, rfl⟩
    · rw [rdU_ok hd]
      by_cases hb : 1 < v
      · rw [rdB_big hd hb]; exact .inr (.inl ⟨hb, rfl⟩)
      · rw [rdB_ok hd hb]; exact .inr (.inr ⟨hb, rfl⟩)
theorem rdT_cases (s : RS) : ((rdU s).2 = none ∧ rdT s = ([], none)) ∨ ∃ b, (rdU s).2 = some b ∧ (((65536 < (rdU s).1 ∨ b.length < (rdU s).1) ∧ rdT s = ([], none)) ∨ (¬ (65536 < (rdU s).1 ∨ b.length < (rdU s).1) ∧ rdT s = (b.take (rdU s).1, some (b.drop (rdU s).1)))) := by
  match h : rdU s with
  | (v, none) => exact .inl ⟨rfl, by simp [rdT, h]⟩
  | (v, some b) =>
    refine .inr ⟨b, rfl, ?_⟩
    by_cases hb : 65536 < v ∨ b.length < v
    · exact .inl ⟨hb, by simp only [rdT, h]; exact if_pos hb⟩
    · exact .inr ⟨hb, by simp only [rdT, h]; exact if_neg hb⟩
section
variable {w : World} {g c : Nat} {A : Option Addr} (s : RS) (h : IsRr w g A c s)
include h
set_option maxHeartbeats 2000000 in
theorem rTextR_any : Calls Tryz.prog 38 #[.pointer (some ⟨g, 0, none⟩)] w fun e w' => e = .returned (.string (strOf (rdT s).1)) ∧ RrTo w g (rdT s).2 w' := by
  have hv64 := rdU_lt s
  rcases rdT_cases s with ⟨hs1, hr⟩ | ⟨b, hs1, ⟨hb, hr⟩ | ⟨hb, hr⟩⟩
  · replace hs1 := Lib.hid hs1
    replace hr := Lib.hid hr
    go_enter Tryz.func38, Tryz.ntmps38
    go_wp2_with (fail)
    refine (rUintR_any s h).mono ?_
    rintro e w1 ⟨rfl, ht⟩
    rw [hs1.out] at ht
    obtain ⟨A1, c1, i1, k1⟩ := ht
    have d2 := i1.c2
    simp only [Option.isNone_none] at d2
    have hfin := Lib.hid (show RrTo w g none w1 from ⟨A1, c1, i1, k1⟩)
    go_wp2_with (go_at_call 89; refine (rvalid_p i1).mono ?_; rintro e w' ⟨rfl, rfl⟩)
    go_ret
    exact ⟨by rw [hr.out]; rfl, by rw [hr.out]; exact hfin.out⟩
  · replace hs1 := Lib.hid hs1
    replace hr := Lib.hid hr
    generalize hv : (rdU s).1 = v at *
    replace hv := Lib.hid hv
    by_cases hb1 : 65536 < v
    all_goals
      go_enter Tryz.func38, Tryz.ntmps38
      go_wp2_with (fail)
      refine (rUintR_any s h).mono ?_
      rintro e w1 ⟨he, ht⟩
      rw [hv.out] at he
      subst he
      rw [hs1.out] at ht
      obtain ⟨A1, c1, i1, k1⟩ := ht
      have d2 := i1.c2
      have d1 := i1.c1
      have hln := i1.len
      simp only [Option.isNone_some, left] at d2 d1 hln
      have hb2 : ¬ 65536 < v → (b.length : Int) < (v : Int) := by omega
      have hb3 : (65536 : Int) < (v : Int) ∨ (b.length : Int) < (v : Int) := by omega
      generalize b.length = n at *
    · have hbi : (65536 : Int) < (v : Int) := by omega
      clear hb1 hb hb2 hb3
      go_wp2_with (first
        | (go_at_call 89; refine (rvalid_p i1).mono ?_; rintro e w' ⟨rfl, rfl⟩)
        | (go_at_call 91; refine (rfail_p i1).mono ?_; rintro e w2 ⟨rfl, ht⟩))
      go_ret
      exact ⟨by rw [hr.out]; rfl, by rw [hr.out]; exact RrTo.then (s' := none) k1 ht⟩
    · have hbi : ¬ (65536 : Int) < (v : Int) := by omega
      have hbj := hb2 hb1
      clear hb1 hb hb2 hb3
      go_wp2_with (first
        | (go_at_call 89; refine (rvalid_p i1).mono ?_; rintro e w' ⟨rfl, rfl⟩)
        | (go_at_call 91; refine (rfail_p i1).mono ?_; rintro e w2 ⟨rfl, ht⟩))
      go_ret
      exact ⟨by rw [hr.out]; rfl, by rw [hr.out]; exact RrTo.then (s' := none) k1 ht⟩
  · replace hs1 := Lib.hid hs1
    replace hr := Lib.hid hr
    generalize hv : (rdU s).1 = v at *
    replace hv := Lib.hid hv
    go_enter Tryz.func38, Tryz.ntmps38
    go_wp2_with (fail)
    refine (rUintR_any s h).mono ?_
    rintro e w1 ⟨he, ht⟩
    rw [hv.out] at he
    subst he
    rw [hs1.out] at ht
    obtain ⟨A1, c1, i1, k1⟩ := ht
    have d2 := i1.c2
    have d1 := i1.c1
    have f1 := i1.fz 1
    have hln := i1.len
    have hcap := i1.cap
    have hs2 := (i1.rb.first (k := v) (by simp only [left]; omega)).str c1
    have hq := i1.cutTo (k := v) (by simp only [left]; omega) (s' := some (b.drop v)) rfl rfl
    simp only [Option.isNone_some, left] at d2 d1 hln hcap hs2 hq
    have hbi : ¬ (65536 : Int) < (v : Int) := by omega
    have hbj : ¬ (b.length : Int) < (v : Int) := by omega
    generalize b.length = n at *
    clear hb
    by_cases hck : c1 = v
    · rw [if_pos hck, show n - v = 0 from by omega] at hq
      subst hck
      rw [Nat.sub_self] at hq
      replace hq := Lib.hid hq
      go_wp2_with (first
        | (go_at_call 89; refine (rvalid_p i1).mono ?_; rintro e w' ⟨rfl, rfl⟩))
      go_ret
      exact ⟨by rw [hr.out]; rfl, by rw [hr.out]; exact RrTo.then (s' := none) k1 hq.out⟩
    · rw [if_neg hck] at hq
      replace hq := Lib.hid hq
      go_wp2_with (first
        | (go_at_call 89; refine (rvalid_p i1).mono ?_; rintro e w' ⟨rfl, rfl⟩))
      go_ret
      exact ⟨by rw [hr.out]; rfl, by rw [hr.out]; exact RrTo.then (s' := none) k1 hq.out⟩
end
set_option maxHeartbeats 1000000 in
theorem readR_any {A : Option Addr} {n c : Nat} {xs : List UInt8} {w : World} (h : RB w A n xs) (hn : n ≤ 70368744177664) : Calls Tryz.prog 33 #[.slice A n c] w fun e w' => ∃ g A' c', e = .returned (.pointer (some ⟨g, 0, none⟩)) ∧ w.heap.size ≤ g ∧ IsRr w' g A' c' (some xs) ∧ (∀ k, rowOf A' = some k → w.heap.size ≤ k) ∧ Below w.heap.size w w' := by
  have hl := Lib.hid h.1
  have hbw : Below w.heap.size w (w.alloc (.cells #[] 5)) := (Below.refl _ _).alloc (Nat.le_refl _) _
  obtain ⟨A2, c2, w2, hrun, hown, hgr, _⟩ := append_rb (W := w.alloc (.cells #[] 5)) (base := w.heap.size) (c := 0) (A := some ⟨w.heap.size, 0, none⟩) (xs := []) (d := c) (World.ownsRow_made w #[] 0 (Nat.le_refl _) (Nat.zero_le _) rfl) (by simp) (h.below hbw) (by simp; omega)
  rw [List.nil_append] at hrun hown
  have hrun := (show (appSem #[22, 22] 22 #[.slice (some ⟨w.heap.size, 0, none⟩) 0 0, .slice A n c]).run Tryz.prog (w.alloc (.cells #[] 5)) = .ok (.slice A2 xs.length c2) w2 from hrun)
  have hb2 : Below w.heap.size w w2 := hbw.grown hgr (by simp) fun k e => by have e : w.heap.size = k := Option.some.inj e; omega
  go_enter Tryz.func33, Tryz.ntmps33
  go_wp2_with (fail)
  go_ret
  refine ⟨w2.heap.size, A2, c2, rfl, hb2.size, ⟨heap_alloc_new w2 _, (RB.of_own hown).below ((Below.refl _ w2).alloc (Nat.le_refl _) _), ?_, ?_, (RowTy.of_own hown).keepR (S := fun _ => False) (Chg.of_below ((Below.refl _ w2).alloc (Nat.le_refl _) _) _) fun _ _ q => q⟩, ?_, hb2.trans (((Below.refl _ w2).alloc (Nat.le_refl _) _).mono hb2.size)⟩
  · simp only [left]
    rcases hown.2 with ⟨e, e2⟩ | ⟨k, cp, cur, e, _, _, hle, _⟩
    · omega
    · simp only [Value.slice.injEq] at e
      omega
  · simp only [left]
    rw [hl.out]; exact hn
  · intro k hk
    exact (hown.lt k (by rw [own_rowOf]; exact hk)).1
end Go.Proofs.YtlinjanflenljaaGreatDoor
