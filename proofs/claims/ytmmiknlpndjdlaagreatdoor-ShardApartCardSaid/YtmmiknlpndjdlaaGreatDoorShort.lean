/- A definition that is short. -/
import Derived.Test.YtmmiknlpndjdlaaGreatDoorRange
import Derived.Test.YtmmiknlpndjdlaaGreatDoorHasG
import Derived.Test.YtmmiknlpndjdlaaGreatDoorCChk
import Derived.Test.YtmmiknlpndjdlaaGreatDoorClG
import Derived.Test.YtmmiknlpndjdlaaGreatDoorHas
namespace Go.Proofs.YtmmiknlpndjdlaaGreatDoor
open Go.RowKit Go.Shelf
set_option linter.unusedSimpArgs false
set_option linter.unusedVariables false
set_option linter.unusedSectionVars false
set_option maxRecDepth 10000
set_option maxHeartbeats 16000000 in
theorem fits_any (r1 r2 : ByteArray) (A : Option Addr) (n c : Nat) (ks : List ByteArray) (A2 : Option Addr) (n2 c2 : Nat) (cs : List Cn) (v : World) (hks : KS v A n ks) (hcs : CS v A2 n2 cs) (hn : n ≤ 1000000) (hn2 : n2 ≤ 1000000) (hr : szG (r1, r2)) (hsz : ∀ k ∈ ks, k.size ≤ 140737488355328) : Calls Tryz.prog 34 #[.agg #[.string r1, .string r2], .slice A n c, .slice A2 n2 c2] v fun e w' => e = .returned (.bool (fitsB (r1, r2) ks cs)) ∧ Below v.heap.size v w' := by
 obtain ⟨fb, hfb⟩ : ∃ z, z = fitsB (r1, r2) ks cs := ⟨_, rfl⟩
 rw [← hfb]
 obtain ⟨W1, hW1⟩ : ∃ W1, W1 = v.alloc (.cells #[.string r1, .string r2] 31) := ⟨_, rfl⟩
 obtain ⟨W2, hW2⟩ : ∃ W2, W2 = W1.alloc (.map #[] 0) := ⟨_, rfl⟩
 have hsz1 : W1.heap.size = v.heap.size + 1 := by rw [hW1]; simp
 have k2 : Below v.heap.size v W2 := by rw [hW2, hW1]; exact ((Below.refl _ v).alloc (Nat.le_refl _) _).alloc (by simp) _
 have q2 : W2.heap[v.heap.size]? = some (.cells #[.string r1, .string r2] 31 (0, 0)) := by rw [hW2, hW1]; repeat (first | exact hpNewAt _ (by simp) | exact hpNew _ _ | refine (hpOld _ (by simp <;> omega)).trans ?_)
 have hm2 : MapS Tryz.prog 9 seenE W2 (v.heap.size + 1) (seenL []) := by
  have h0 := MapOf.made W1 Tryz.prog 9
  rw [hsz1, ← hW2] at h0
  exact MapOf.congr h0 (f' := sF seenE []) (fun key kl hk => by unfold sF; split <;> rfl)
 have hmk : (Instr.makeMap 152 none).run Tryz.prog W1 = .ok (.map (some (v.heap.size + 1))) W2 := by rw [hW2, ← hsz1]; exact run_makeMap _ W1
 rw [hW1] at hmk
 replace hks := Lib.hid hks; replace hcs := Lib.hid hcs; replace hr := Lib.hid hr; replace hsz := Lib.hid hsz; replace hfb := Lib.hid hfb; replace k2 := Lib.hid k2; replace q2 := Lib.hid q2; replace hm2 := Lib.hid hm2; replace hW1 := Lib.hid hW1; replace hW2 := Lib.hid hW2; replace hsz1 := Lib.hid hsz1
 go_enter Tryz.func34, Tryz.ntmps34
 go_wp2_with (fail)
 go_loopw [13] (fun i wr => ∃ j : Nat, j ≤ n ∧ i = .int .i64 j ∧ FitI (r1, r2) ks cs j ∧ Below v.heap.size v wr ∧ wr.heap[v.heap.size]? = some (.cells #[.string r1, .string r2] 31 (0, 0)) ∧ MapS Tryz.prog 9 seenE wr (v.heap.size + 1) (seenL (ks.take j))) (fun i _ => n - (intOf i).toNat)
 case atStart => exact ⟨0, by omega, rfl, FitI.zero _ _ _, k2.out, q2.out, hm2.out⟩
 case round =>
  clear hmk
  revert wr
  intro X hrel
  obtain ⟨j, hj, rfl, hI, hbw, hq, hm⟩ := hrel
  have hkl := hks.out.1
  have hcl := hcs.out.1
  by_cases hlt : j < n
  ·
   obtain ⟨b, o, k, rfl, hbl, hx, hc⟩ := SL.at_ hks.out hlt
   have s0 := (hbw.cell (p := ⟨b, _, none⟩) hbl).trans (hc 0 _ rfl)
   rw [Nat.mul_one, Nat.add_zero] at s0
   clear hc
   have hks2 := hsz.out k (List.mem_of_getElem? hx)
   have hlk := seen_look hm k (by unfold maxLen; omega)
   have z0 := blkC hq 0; have z1 := blkC hq 1; have zx := blkX hq
   simp only [List.getElem?_toArray, List.getElem?_cons_zero, List.getElem?_cons_succ] at z0 z1
   have j0 : (0 : Int) ≤ j := by omega
   have j1 : (j : Int) < (n : Int) := by omega
   replace hq := Lib.hid hq; replace hbw := Lib.hid hbw; replace hm := Lib.hid hm; replace hI := Lib.hid hI; replace hx := Lib.hid hx; replace hks2 := Lib.hid hks2; replace hkl := Lib.hid hkl; replace hcl := Lib.hid hcl
   cases hin : inL (ks.take j) k with
   | true =>
    rw [hin] at hlk
    have hno : fb = false := by rw [hfb.out]; exact fits_seen hx.out (inL_iff.1 hin)
    subst hno
    go_wp2_with (fail)
    go_ret
    exact ⟨rfl, hbw.out⟩
   | false =>
    rw [hin] at hlk
    replace hin := Lib.hid hin
    by_cases hjn : j < n2
    ·
     have i1 : ¬ (n2 : Int) ≤ (j : Int) := by omega
     obtain ⟨b2, o2, cc, rfl, hbl2, hx2, hc2⟩ := SL.at_ hcs.out hjn
     have hh := fun W => hasG_any r1 r2 k W hr.out.1 hr.out.2 hks2.out
     replace hx2 := Lib.hid hx2
     cases hhas : hasG (r1, r2) k with
     | false =>
      rw [hhas] at hh
      replace hhas := Lib.hid hhas
      have hno : fb = false := by rw [hfb.out]; exact fits_has hx.out hhas.out
      subst hno
      go_wp2_with (fail)
      refine (hh _).mono ?_
      rintro e W3 ⟨rfl, b3⟩
      have k3 := Lib.hid (hbw.out.trans (b3.mono hbw.out.size))
      clear b3
      go_wp2_with (fail)
      go_ret
      exact ⟨rfl, k3.out⟩
     | true =>
      rw [hhas] at hh
      replace hhas := Lib.hid hhas
      obtain ⟨y1, y2, y3, y4, y5⟩ := cc
      have hck := fun W => Co.check_any y1 y2 y3 y4 y5 W
      have hcke : Co.ckE y1 y2 y3 y4 y5 = if ckC (y1, y2, y3, y4, y5) then 0 else 2 := rfl
      generalize Co.ckE y1 y2 y3 y4 y5 = ke at *
      replace hc2 := Lib.hid hc2
      replace hcke := Lib.hid hcke
      go_wp2_with (fail)
      refine (hh _).mono ?_
      rintro e W3 ⟨rfl, b3⟩
      have k3 := Lib.hid (hbw.out.trans (b3.mono hbw.out.size))
      have m3 := Lib.hid (MapOf.below hm.out b3)
      have q3 := Lib.hid ((b3.block _ (blkX hq.out)).trans hq.out)
      have t0 := (k3.out.cell (p := ⟨b2, _, none⟩) hbl2).trans (hc2.out 0 _ rfl)
      have t1 := (k3.out.cell (p := ⟨b2, _, none⟩) hbl2).trans (hc2.out 1 _ rfl)
      have t2 := (k3.out.cell (p := ⟨b2, _, none⟩) hbl2).trans (hc2.out 2 _ rfl)
      have t3 := (k3.out.cell (p := ⟨b2, _, none⟩) hbl2).trans (hc2.out 3 _ rfl)
      have t4 := (k3.out.cell (p := ⟨b2, _, none⟩) hbl2).trans (hc2.out 4 _ rfl)
      rw [Nat.add_zero] at t0
      clear b3 hh z0 z1 zx s0 hlk
      go_wp2_with (fail)
      refine (hck _).mono ?_
      rintro e W4 ⟨rfl, b4⟩
      have k4 := Lib.hid (k3.out.trans (b4.mono k3.out.size))
      have m4 := Lib.hid (MapOf.below m3.out b4)
      have q4 := Lib.hid ((b4.block _ (blkX q3.out)).trans q3.out)
      clear b4 hck t0 t1 t2 t3 t4
      cases hcc : ckC (y1, y2, y3, y4, y5) with
      | false =>
       have hke : ke = 2 := by rw [hcke.out, hcc]; rfl
       subst hke
       have hno : fb = false := by rw [hfb.out]; exact fits_ck hx2.out hcc
       subst hno
       replace hcc := Lib.hid hcc
       go_wp2_with (fail)
       go_ret
       exact ⟨rfl, k4.out⟩
      | true =>
       have hke : ke = 0 := by rw [hcke.out, hcc]; rfl
       subst hke
       replace hcc := Lib.hid hcc
       obtain ⟨W5, hrun, m5, hmt⟩ := MapS.store (enc := seenE) (lt := lessB) m4.out undS Tryz.underlying152 (by have := len_seen (ks.take j); rw [List.length_take] at this; unfold maxLen; omega) k (by have := hks2.out; unfold maxLen; omega) ()
       have hch := turned_chg hmt
       have k5 : Below v.heap.size v W5 := Chg.belowAfter k4.out hch k4.out.size (fun q hq' e => by omega)
       have q5 := (hch.block _ (blkX q4.out) (by omega)).trans q4.out
       rw [← seenL_snoc] at m5
       have hnx := hI.out.next hx.out hx2.out (inL_not hin.out) hhas.out hcc.out
       have hsn : ks.take j ++ [k] = ks.take (j + 1) := by rw [List.take_add_one, hx.out]; rfl
       rw [hsn] at m5
       replace m5 := Lib.hid m5; replace hch := Lib.hid hch; replace k5 := Lib.hid k5; replace q5 := Lib.hid q5; replace hnx := Lib.hid hnx; replace hsn := Lib.hid hsn
       clear hmt
       go_wp2_with (fail)
       exact ⟨⟨j + 1, by omega, by go_num, hnx.out, k5.out, q5.out, m5.out⟩, by simp [intOf]; omega⟩
    ·
     have i1 : (n2 : Int) ≤ (j : Int) := by omega
     have hno : fb = false := by rw [hfb.out]; exact fits_len (by have := hkl.out; have := hcl.out; omega)
     subst hno
     go_wp2_with (fail)
     go_ret
     exact ⟨rfl, hbw.out⟩
  ·
   obtain rfl : j = n := by omega
   have j1 : ¬ (j : Int) < (j : Int) := by omega
   have z0 := blkC hq 0; have z1 := blkC hq 1; have zx := blkX hq
   simp only [List.getElem?_toArray, List.getElem?_cons_zero, List.getElem?_cons_succ] at z0 z1
   replace hq := Lib.hid hq; replace hbw := Lib.hid hbw; replace hm := Lib.hid hm; replace hI := Lib.hid hI; replace hkl := Lib.hid hkl; replace hcl := Lib.hid hcl
   by_cases hl : j = n2
   ·
    have hrg := fun W => rng_any r1 r2 W hr.out.1 hr.out.2
    have hend : fb = okG (r1, r2) := by rw [hfb.out]; exact fits_end (by rw [hkl.out]; exact hI.out) (by rw [hkl.out, hcl.out]; exact hl)
    subst hl
    cases hok : okG (r1, r2) with
    | true =>
     rw [takeC_ok hok] at hrg
     rw [hok] at hend
     subst hend
     replace hok := Lib.hid hok
     go_wp2_with (fail)
     refine (hrg _).mono ?_
     rintro e W3 ⟨rfl, b3⟩
     have k3 := Lib.hid (hbw.out.trans (b3.mono hbw.out.size))
     clear b3
     go_wp2_with (fail)
     go_ret
     exact ⟨rfl, k3.out⟩
    | false =>
     rw [takeC_bad hok] at hrg
     rw [hok] at hend
     subst hend
     replace hok := Lib.hid hok
     go_wp2_with (fail)
     refine (hrg _).mono ?_
     rintro e W3 ⟨rfl, b3⟩
     have k3 := Lib.hid (hbw.out.trans (b3.mono hbw.out.size))
     clear b3
     go_wp2_with (fail)
     go_ret
     exact ⟨rfl, k3.out⟩
   ·
    have hni : ((j : Int) == (n2 : Int)) = false := by simp; omega
    have hni2 : ¬ (j : Int) = (n2 : Int) := by omega
    have hno : fb = false := by rw [hfb.out]; exact fits_len (by have := hkl.out; have := hcl.out; omega)
    subst hno
    go_wp2_with (fail)
    go_ret
    exact ⟨rfl, hbw.out⟩
end Go.Proofs.YtmmiknlpndjdlaaGreatDoor

namespace Go.Proofs.YtmmiknlpndjdlaaGreatDoor.Wi
def enc (n : Nat) : List UInt8 :=
 if n < 128 then [UInt8.ofNat n] else UInt8.ofNat (n % 128 + 128) :: enc (n / 128)
termination_by n
decreasing_by omega
theorem enc_lt {n : Nat} (h : n < 128) : enc n = [UInt8.ofNat n] := by rw [enc, if_pos h]
theorem enc_ge {n : Nat} (h : 128 ≤ n) : enc n = UInt8.ofNat (n % 128 + 128) :: enc (n / 128) := by rw [enc, if_neg (by omega)]
theorem ofNat_toNat {n : Nat} (h : n < 256) : (UInt8.ofNat n).toNat = n := by rw [UInt8.toNat_ofNat']; exact Nat.mod_eq_of_lt h

theorem enc_len_pow (k : Nat) : ∀ n, n < 128 ^ (k + 1) → (enc n).length ≤ k + 1 := by
 induction k with
 | zero => intro n h; rw [enc_lt (by simpa using h)]; simp
 | succ k ih =>
  intro n h
  rcases Nat.lt_or_ge n 128 with q | q
  ·
   rw [enc_lt q]; simp
  ·
   rw [enc_ge q, List.length_cons]
   have := ih (n / 128) (by rw [Nat.pow_succ] at h; exact Nat.div_lt_of_lt_mul (by rw [Nat.mul_comm]; exact h))
   omega
theorem enc_len {n : Nat} (h : n < 18446744073709551616) : (enc n).length ≤ 10 := enc_len_pow 9 n (by omega)

def zig (a : Int) : Nat := if a < 0 then (2 * (-(a + 1)) + 1).toNat else (2 * a).toNat
theorem zig_lt {a : Int} (h1 : -9223372036854775808 ≤ a) (h2 : a ≤ 9223372036854775807) : zig a < 18446744073709551616 := by unfold zig; split <;> omega
end Go.Proofs.YtmmiknlpndjdlaaGreatDoor.Wi

namespace Go.Proofs.YtmmiknlpndjdlaaGreatDoor
open Go.RowKit Go.Shelf
set_option linter.unusedSimpArgs false
set_option linter.unusedVariables false
set_option linter.unusedSectionVars false
set_option maxRecDepth 10000
def encS2 (x : ByteArray × Int) : List Value := [.string x.1, .int .i64 x.2]
def IsB (e : Ending) : Prop := ∃ b, e = .returned (.bool b)
abbrev SS2 (w : World) (A : Option Addr) (n : Nat) (l : List (ByteArray × Int)) : Prop := SL encS2 2 w A n l
set_option maxHeartbeats 8000000 in
theorem short_any (nm : ByteArray) (r dl : Int) (A : Option Addr) (n c : Nat) (l : List (ByteArray × Int)) (w : World) (hs : SS2 w A n l) : Calls Tryz.prog 31 #[.agg #[.string nm, .int .i64 r, .int .i64 dl, .slice A n c]] w fun e w' => IsB e ∧ Below w.heap.size w w' := by
 obtain ⟨W1, hW1⟩ : ∃ W, W = w.alloc (.cells #[.string nm, .int .i64 r, .int .i64 dl, .slice A n c] 34) := ⟨_, rfl⟩
 have k1 : Below w.heap.size w W1 := by rw [hW1]; exact (Below.refl _ w).alloc (Nat.le_refl _) _
 have b1 : W1.heap[w.heap.size]? = some (.cells #[.string nm, .int .i64 r, .int .i64 dl, .slice A n c] 34 (0, 0)) := by rw [hW1]; exact hpNew _ _
 have hs1 := SL.keep hs k1
 replace k1 := Lib.hid k1; replace b1 := Lib.hid b1; replace hs1 := Lib.hid hs1
 clear hs
 by_cases h20 : 20 < n
 ·
  have q : ((20 : Int) < (n : Int)) = True := eq_true (by omega)
  replace hW1 := Lib.hid hW1
  go_enter Tryz.func31, Tryz.ntmps31
  go_wp2_with (fail)
  all_goals (go_ret; exact ⟨⟨_, rfl⟩, by have := k1.out; rw [hW1.out] at this; exact this⟩)
 ·
  have q : ((20 : Int) < (n : Int)) = False := eq_false (by omega)
  by_cases h40 : 40 < nm.size
  ·
   have q2 : ((40 : Int) < (nm.size : Int)) = True := eq_true (by omega)
   replace hW1 := Lib.hid hW1; replace h20 := Lib.hid h20; replace h40 := Lib.hid h40
   go_enter Tryz.func31, Tryz.ntmps31
   go_wp2_with (fail)
   all_goals (go_ret; exact ⟨⟨_, rfl⟩, by have := k1.out; rw [hW1.out] at this; exact this⟩)
  ·
   have q2 : ((40 : Int) < (nm.size : Int)) = False := eq_false (by omega)
   replace h40 := Lib.hid h40
   replace hW1 := Lib.hid hW1
   go_enter Tryz.func31, Tryz.ntmps31
   go_wp2_with (fail)
   rw [← hW1.out]
   go_loopw [3] (fun i wr => wr = W1 ∧ ∃ j : Nat, j ≤ n ∧ i = .int .i64 j) (fun i _ => n - (intOf i).toNat)
   case atStart => exact ⟨by first | rfl | trivial | exact hW1.out.symm, 0, by omega, rfl⟩
   case round =>
    clear q q2
    revert wr
    intro X hrel
    obtain ⟨hX, j, hj, rfl⟩ := hrel
    obtain rfl : X = W1 := hX
    have c3 : X.cell? ⟨w.heap.size, 3, none⟩ = some (.slice A n c) := blkC b1.out 3
    have cx := blkX b1.out
    by_cases hlt : j < n
    ·
     obtain ⟨b, o, y, rfl, hbl, hx, hc⟩ := SL.at_ hs1.out hlt
     have s0 := hc 0 _ rfl
     rw [Nat.add_zero] at s0
     clear hc hx
     obtain ⟨yk, yd⟩ := y
     simp only at s0
     have j0 : (0 : Int) ≤ j := by omega
     have j1 : (j : Int) < (n : Int) := by omega
     by_cases hk : 40 < yk.size
     ·
      have q3 : ((40 : Int) < (yk.size : Int)) = True := eq_true (by omega)
      replace hk := Lib.hid hk
      go_wp2_with (fail)
      go_ret
      exact ⟨⟨_, rfl⟩, k1.out⟩
     ·
      have q3 : ((40 : Int) < (yk.size : Int)) = False := eq_false (by omega)
      replace hk := Lib.hid hk
      go_wp2_with (fail)
      exact ⟨⟨by trivial, j + 1, by omega, by go_num⟩, by simp [intOf]; omega⟩
    ·
     obtain rfl : j = n := by omega
     go_wp2_with (fail)
     go_ret
     exact ⟨⟨_, rfl⟩, k1.out⟩
end Go.Proofs.YtmmiknlpndjdlaaGreatDoor
