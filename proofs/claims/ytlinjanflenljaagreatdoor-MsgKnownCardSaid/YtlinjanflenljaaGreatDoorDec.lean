/- What Decode reads, step by step; plain. -/
import Derived.Test.YtlinjanflenljaaGreatDoorRM
import Derived.Test.YtlinjanflenljaaGreatDoorMsgP
import Derived.Test.YtlinjanflenljaaGreatDoorEnc
namespace Go.Proofs.YtlinjanflenljaaGreatDoor
open Go.RowKit
set_option linter.unusedSimpArgs false
set_option linter.unusedVariables false
set_option linter.unusedSectionVars false
set_option maxRecDepth 10000
/-- A field is read. -/
def rdF (j : Nat) (x : Mg × RS) : Mg × RS := match j with
  | 0 => ({ x.1 with ro := (pSm x.2).1, no := (pSm (pSm x.2).2).1 }, (pSm (pSm x.2).2).2)
  | 1 => ({ x.1 with sl := (pSm x.2).1 }, (pSm x.2).2)
  | 2 => ({ x.1 with nu := (pSm x.2).1 }, (pSm x.2).2)
  | 3 => ({ x.1 with v := (rdT x.2).1 }, (rdT x.2).2)
  | _ => ({ x.1 with l := (gEnts pSm (pSm x.2).1.toNat (pSm x.2).2).1 }, if (gEnts pSm (pSm x.2).1.toNat (pSm x.2).2).1.length = (pSm x.2).1.toNat then (gEnts pSm (pSm x.2).1.toNat (pSm x.2).2).2 else none)
def kOf (b : List UInt8) : Int := (pSm (some b)).1
/-- The fields below j are read. -/
def rdTo (b : List UInt8) : Nat → Mg × RS
  | 0 => ({ zeroMg with k := kOf b, fr := (pSm (pSm (some b)).2).1, tt := (pSm (pSm (pSm (some b)).2).2).1 }, (pSm (pSm (pSm (some b)).2).2).2)
  | j + 1 => if fUse j (kOf b) = true then rdF j (rdTo b j) else rdTo b j
theorem rdF_k (j : Nat) (x : Mg × RS) : (rdF j x).1.k = x.1.k := by
  unfold rdF; split <;> rfl
theorem rdTo_k (b : List UInt8) : ∀ j, (rdTo b j).1.k = kOf b
  | 0 => rfl
  | j + 1 => by
    unfold rdTo
    split
    · rw [rdF_k, rdTo_k b j]
    · exact rdTo_k b j
theorem rdF_l {j : Nat} (hj : j < 4) (x : Mg × RS) : (rdF j x).1.l = x.1.l := by
  have : j = 0 ∨ j = 1 ∨ j = 2 ∨ j = 3 := by omega
  rcases this with rfl | rfl | rfl | rfl <;> rfl
theorem rdTo_l (b : List UInt8) : ∀ j, j ≤ 4 → (rdTo b j).1.l = []
  | 0, _ => rfl
  | j + 1, hj => by
    unfold rdTo
    split
    · rw [rdF_l (by omega), rdTo_l b j (by omega)]
    · exact rdTo_l b j (by omega)
theorem rdTo_msg (b : List UInt8) : (rdTo b 5).1 = gMg pSm b ∧ ((rdTo b 5).2 = some [] ↔ gEnd pSm b = some [] ∧ ((gMg pSm b).l.length : Int) = (gCnt pSm b).1) := by
  have hle := pSm_le
  unfold gEnd gMg gCnt
  simp only [rdTo, fUse, kOf]
  generalize (pSm (some b)).1 = K
  generalize (pSm (pSm (some b)).2).1 = f
  generalize (pSm (pSm (pSm (some b)).2).2).1 = t
  generalize (pSm (pSm (pSm (some b)).2).2).2 = S0
  obtain ⟨r1, r2, s1, hB⟩ : ∃ r1 r2 s1, gB pSm (uB K) S0 = (r1, r2, s1) := ⟨_, _, _, rfl⟩
  have h1 : (if uB K = true then rdF 0 (({ zeroMg with k := K, fr := f, tt := t } : Mg), S0) else (({ zeroMg with k := K, fr := f, tt := t } : Mg), S0)) = ((⟨K, f, t, r1, r2, 0, 0, [], []⟩ : Mg), s1) := by
    unfold gB at hB
    split at hB
    · rename_i hu
      rw [if_pos hu]
      simp only [Prod.mk.injEq] at hB
      obtain ⟨rfl, rfl, rfl⟩ := hB; rfl
    · rename_i hu
      rw [if_neg hu]
      simp only [Prod.mk.injEq] at hB
      obtain ⟨rfl, rfl, rfl⟩ := hB; rfl
  rw [h1, hB]
  clear h1 hB
  obtain ⟨r3, s2, hS⟩ : ∃ r3 s2, gN pSm (uS K) s1 = (r3, s2) := ⟨_, _, rfl⟩
  have h2 : (if uS K = true then rdF 1 ((⟨K, f, t, r1, r2, 0, 0, [], []⟩ : Mg), s1) else ((⟨K, f, t, r1, r2, 0, 0, [], []⟩ : Mg), s1)) = ((⟨K, f, t, r1, r2, r3, 0, [], []⟩ : Mg), s2) := by
    unfold gN at hS
    split at hS
    · rename_i hu
      rw [if_pos hu]
      simp only [rdF, hS]
    · rename_i hu
      rw [if_neg hu]
      simp only [Prod.mk.injEq] at hS
      obtain ⟨rfl, rfl⟩ := hS; rfl
  simp only [h2, hS]
  clear h2 hS
  obtain ⟨r4, s3, hN⟩ : ∃ r4 s3, gN pSm (uN K) s2 = (r4, s3) := ⟨_, _, rfl⟩
  have h3 : (if uN K = true then rdF 2 ((⟨K, f, t, r1, r2, r3, 0, [], []⟩ : Mg), s2) else ((⟨K, f, t, r1, r2, r3, 0, [], []⟩ : Mg), s2)) = ((⟨K, f, t, r1, r2, r3, r4, [], []⟩ : Mg), s3) := by
    unfold gN at hN
    split at hN
    · rename_i hu
      rw [if_pos hu]
      simp only [rdF, hN]
    · rename_i hu
      rw [if_neg hu]
      simp only [Prod.mk.injEq] at hN
      obtain ⟨rfl, rfl⟩ := hN; rfl
  simp only [h3, hN]
  clear h3 hN
  obtain ⟨r5, s4, hV⟩ : ∃ r5 s4, gV (uV K) s3 = (r5, s4) := ⟨_, _, rfl⟩
  have h4 : (if uV K = true then rdF 3 ((⟨K, f, t, r1, r2, r3, r4, [], []⟩ : Mg), s3) else ((⟨K, f, t, r1, r2, r3, r4, [], []⟩ : Mg), s3)) = ((⟨K, f, t, r1, r2, r3, r4, r5, []⟩ : Mg), s4) := by
    unfold gV at hV
    split at hV
    · rename_i hu
      rw [if_pos hu]
      simp only [rdF, hV]
    · rename_i hu
      rw [if_neg hu]
      simp only [Prod.mk.injEq] at hV
      obtain ⟨rfl, rfl⟩ := hV; rfl
  simp only [h4, hV]
  clear h4 hV
  cases hu : uL K
  · simp [gN, gEnts]
  · simp only [if_true, reduceIte, rdF, gN]
    refine ⟨trivial, ?_⟩
    have h0 := (hle s4).1
    constructor
    · intro h
      split at h
      · rename_i hl
        refine ⟨h, ?_⟩
        rw [hl]
        exact Int.toNat_of_nonneg h0
      · cases h
    · rintro ⟨h, hl⟩
      rw [if_pos (by omega)]; exact h
theorem end_zero (s : RS) : endE' s = 0 ↔ s = some [] := by
  unfold endE'
  split <;> simp
theorem end_or (s : RS) : endE' s = 0 ∨ endE' s = 10 := by
  unfold endE'
  split <;> simp
/-- What the end of Decode finds. -/
theorem dec_end {b : List UInt8} (hb : b.length ≤ 1048576) (hk : inK (kOf b) = true) : decM b = if endE' (rdTo b 5).2 = 0 ∧ encE (rdTo b 5).1 = 0 then ((rdTo b 5).1, 0) else (zeroMg, 10) := by
  obtain ⟨h1, h2⟩ := rdTo_msg b
  have h3 := end_zero (rdTo b 5).2
  unfold decM
  rw [if_neg (by omega)]
  have hk2 : inK (gMg pSm b).k = true := hk
  by_cases hg : gOK pSm b
  · rw [if_pos hg, if_pos ⟨h3.2 (h2.2 ⟨hg.2.1, hg.2.2.1⟩), by rw [h1]; exact hg.2.2.2⟩, h1]
  · rw [if_neg hg, if_neg fun q => hg ⟨hk2, (h2.1 (h3.1 q.1)).1, (h2.1 (h3.1 q.1)).2, by rw [← h1]; exact q.2⟩]
theorem dec_noK {b : List UInt8} (hb : b.length ≤ 1048576) (hk : inK (kOf b) = false) : decM b = (zeroMg, 10) := by
  unfold decM
  rw [if_neg (by omega), if_neg]
  intro hg
  have : inK (kOf b) = true := hg.1
  rw [hk] at this; cases this
theorem dec_big {b : List UInt8} (hb : 1048576 < b.length) : decM b = (zeroMg, 11) := by unfold decM; rw [if_pos hb]
end Go.Proofs.YtlinjanflenljaaGreatDoor

namespace Go.Proofs.YtlinjanflenljaaGreatDoor
open Go.RowKit
set_option linter.unusedSimpArgs false
set_option linter.unusedVariables false
set_option linter.unusedSectionVars false
set_option maxRecDepth 10000
/-- What Decode comes to. -/
def DecTo (w : World) (b : List UInt8) (e : Ending) (w' : World) : Prop := ∃ A c, e = .returned (.tuple #[.agg (mCells (decM b).1 A c), .int .i64 (decM b).2]) ∧ w'.ownsRow w.heap.size 45 4 (.slice A (decM b).1.l.length c) (decM b).1.l.length (flat encEnt (decM b).1.l) ∧ Below w.heap.size w w'
theorem DecTo.zero {w w' : World} {b : List UInt8} {z : Int} (h : decM b = (zeroMg, z)) (hb : Below w.heap.size w w') : DecTo w b (.returned (.tuple #[.agg #[.int .i64 0, .int .i64 0, .int .i64 0, .int .i64 0, .int .i64 0, .int .i64 0, .int .i64 0, .string ⟨#[]⟩, .slice none 0 0], .int .i64 z])) w' := by
  unfold DecTo
  rw [h]
  exact ⟨none, 0, rfl, World.ownsRow_nil _ _ _ _, hb⟩
theorem own_keep2 {w w' : World} {B e size n : Nat} {A : Option Addr} {c : Nat} {xs : List Value} (h : w.ownsRow B e size (.slice A n c) n xs) (hb : Below w.heap.size w w') : w'.ownsRow B e size (.slice A n c) n xs :=
  own_stay h fun k hk => hb.block k ((h.lt k (by rw [own_rowOf]; exact hk)).2)
theorem own_set {w : World} {B e size n : Nat} {A : Option Addr} {c R : Nat} {xs : List Value} (h : w.ownsRow B e size (.slice A n c) n xs) (hne : ∀ k, rowOf A = some k → k ≠ R) (i : Nat) (v : Value) : (w.setCell ⟨R, i, none⟩ v).ownsRow B e size (.slice A n c) n xs :=
  own_stay h fun k hk => hpFar (hne k hk)
theorem rdTo_len (b : List UInt8) : (rdTo b 5).1.l.length ≤ 2147483647 := by
  rw [(rdTo_msg b).1]
  have h1 := (gEnts_len sm_p (gCnt pSm b).1.toNat (gCnt pSm b).2).2
  have h2 : (gCnt pSm b).1 ≤ 2147483647 := by
    unfold gCnt gN
    split
    · exact (pSm_le _).2
    · simp
  show (gEnts pSm _ _).1.length ≤ _
  omega
theorem rdj_any {w0 W : World} {g gm c : Nat} {x : Mg × RS} {A : Option Addr} {ks : List Kp} (h : RM w0 g x.2 gm x.1 A c ks W) (j : Nat) (hj : j < 5) (hl : j = 4 → x.1.l = []) :
    Calls Tryz.prog (fnRd j) #[.pointer (some ⟨g, 0, none⟩), .pointer (some ⟨gm, 0, none⟩)] W fun e w' => e = .returned (.tuple #[]) ∧ ∃ A' c', RM w0 g (rdF j x).2 gm (rdF j x).1 A' c' ks w' := by
  have : j = 0 ∨ j = 1 ∨ j = 2 ∨ j = 3 ∨ j = 4 := by omega
  rcases this with rfl | rfl | rfl | rfl | rfl
  · exact (rd0_any h).mono fun e w' ⟨h1, h2⟩ => ⟨h1, A, c, h2⟩
  · exact (rd1_any h).mono fun e w' ⟨h1, h2⟩ => ⟨h1, A, c, h2⟩
  · exact (rd2_any h).mono fun e w' ⟨h1, h2⟩ => ⟨h1, A, c, h2⟩
  · exact (rd3_any h).mono fun e w' ⟨h1, h2⟩ => ⟨h1, A, c, h2⟩
  · refine (rd4_any h (hl rfl)).mono ?_
    rintro e w' ⟨h1, s', A', c', h2, h3, h4⟩
    refine ⟨h1, A', c', h2.cast ?_ rfl⟩
    simp only [rdF]
    split
    · rename_i q; exact h3 q
    · rename_i q; exact h4 q
set_option maxHeartbeats 16000000 in
theorem dec_any (A : Option Addr) (n c : Nat) (xs : List UInt8) (w : World) (hL : Ldr w) (hR : RB w A n xs) (hn : n ≤ 70368744177664) : Calls Tryz.prog 13 #[.slice A n c] w fun e w' => DecTo w xs e w' := by
  have hx := hR.1
  obtain ⟨w0, hw0⟩ : ∃ w0, w0 = w.alloc (.cells #[.int .i64 0, .int .i64 0, .int .i64 0, .int .i64 0, .int .i64 0, .int .i64 0, .int .i64 0, .string ⟨#[]⟩, .slice none 0 0] 28) := ⟨_, rfl⟩
  have kb0 : Below w.heap.size w w0 := by rw [hw0]; exact (Below.refl _ w).alloc (Nat.le_refl _) _
  have hR0 : w0.heap[w.heap.size]? = some (.cells #[.int .i64 0, .int .i64 0, .int .i64 0, .int .i64 0, .int .i64 0, .int .i64 0, .int .i64 0, .string ⟨#[]⟩, .slice none 0 0] 28 (0, 0)) := by rw [hw0]; exact hpNew w _
  have hz0 : w0.heap.size = w.heap.size + 1 := by rw [hw0]; simp
  by_cases hbig : 1048576 < n
  · have hd := Lib.hid (dec_big (b := xs) (by omega))
    have hb1 : (1048576 : Int) < (n : Int) := by omega
    have hbz := Lib.hid (Below.refl w.heap.size w)
    clear hR hbig hw0 kb0 hR0 hz0
    go_enter Tryz.func13, Tryz.ntmps13
    go_wp2_with (fail)
    refine bodyPost_ret (by simp [results, Tryz.results13, go_sem, *]; try with_reducible rfl) rfl ?_
    exact DecTo.zero hd.out (by repeat (first | exact hbz.out | (refine Below.setCell ?_ (by simp) _) | (refine Below.alloc ?_ (by first | simp | (simp; omega)) _)))
  · have hb1 : ¬ (1048576 : Int) < (n : Int) := by omega
    have hread := read_any (c := c) (hR.below kb0) hn
    have hxl : xs.length ≤ 1048576 := by omega
    replace hR := Lib.hid hR; replace kb0 := Lib.hid kb0; replace hL := Lib.hid hL; replace hR0 := Lib.hid hR0
    clear hbig hx
    go_enter Tryz.func13, Tryz.ntmps13
    go_wp2_with (fail)
    rw [← hw0]
    refine hread.mono ?_
    rintro e w1 ⟨g, A1, c1, rfl, hg, hi, hrow, b1⟩
    have hs1 := small_any hi
    rw [show (pSm (some xs)).1 = kOf xs from rfl] at hs1
    replace hi := Lib.hid hi
    clear hread
    go_wp2_with (fail)
    refine hs1.mono ?_
    rintro e w2 ⟨rfl, A2, c2, hi2, k2⟩
    have b2 := k2.belowAfter b1 b1.size (fun k hk e => by omega)
    have h0 : RM w0 g (pSm (some xs)).2 w2.heap.size { zeroMg with k := kOf xs } none 0 [] (w2.alloc (.cells #[.int .i64 (kOf xs), .int .i64 0, .int .i64 0, .int .i64 0, .int .i64 0, .int .i64 0, .int .i64 0, .string ⟨#[]⟩, .slice none 0 0] 28)) :=
      ⟨hg, hi2.lt, b2.alloc b2.size _, ⟨A2, c2, hi2.below ((Below.refl _ w2).alloc (Nat.le_refl _) _)⟩, hpNew w2 _, World.ownsRow_nil _ _ _ _, fun x hx => by cases hx⟩
    have hs2 := RM.step h0 (fun A c hi => small_any hi)
    have hx2 := pSm_le (pSm (some xs)).2
    obtain ⟨x2, hX2⟩ : ∃ x, x = (pSm (pSm (some xs)).2).1 := ⟨_, rfl⟩
    rw [← hX2] at hs2
    replace h0 := Lib.hid h0; replace hi2 := Lib.hid hi2; replace hX2 := Lib.hid hX2
    clear b1 k2 b2 hrow hs1
    go_wp2_with (fail)
    refine hs2.mono ?_
    rintro e w3 ⟨rfl, h3⟩
    have f3 := blkF h3.ms
    have q3 := blkC h3.ms 1
    simp only [mCells, List.getElem?_toArray, List.getElem?_cons_zero, List.getElem?_cons_succ] at q3
    have h4 : RM w0 g (pSm (pSm (some xs)).2).2 w2.heap.size { zeroMg with k := kOf xs, fr := x2 } none 0 [] (w3.setCell ⟨w2.heap.size, 1, none⟩ (.int .i64 x2)) := h3.set (setG w3 w2.heap.size 1 _) (by rw [hpSet (i := 1) (v := .int .i64 x2) h3.ms]; simp [mCells]) rfl
    have hs3 := RM.step h4 (fun A c hi => small_any hi)
    obtain ⟨x3, hX3⟩ : ∃ x, x = (pSm (pSm (pSm (some xs)).2).2).1 := ⟨_, rfl⟩
    rw [← hX3] at hs3
    replace h3 := Lib.hid h3; replace h4 := Lib.hid h4; replace hX3 := Lib.hid hX3
    clear hs2 hx2
    go_wp2_with (fail)
    refine hs3.mono ?_
    rintro e w4 ⟨rfl, h5⟩
    have f5 := blkF h5.ms
    have q5 := blkC h5.ms 2
    simp only [mCells, List.getElem?_toArray, List.getElem?_cons_zero, List.getElem?_cons_succ] at q5
    have h6 : RM w0 g (rdTo xs 0).2 w2.heap.size (rdTo xs 0).1 none 0 [] (w4.setCell ⟨w2.heap.size, 2, none⟩ (.int .i64 x3)) := by
      have := h5.set (m' := { zeroMg with k := kOf xs, fr := x2, tt := x3 }) (setG w4 w2.heap.size 2 _) (by rw [hpSet (i := 2) (v := .int .i64 x3) h5.ms]; simp [mCells]) rfl
      rw [hX2.out, hX3.out] at this
      rw [hX3.out]
      exact this
    obtain ⟨W5, hW5⟩ : ∃ W5, W5 = w4.setCell ⟨w2.heap.size, 2, none⟩ (.int .i64 x3) := ⟨_, rfl⟩
    rw [← hW5] at h6
    have q0 : w4.cell? ⟨w2.heap.size, 0, none⟩ = some (.int .i64 (kOf xs)) := blkC h5.ms 0
    have hfind := find_any (kOf xs) W5 (hL.out.keep (kb0.out.trans (h6.bel.mono kb0.out.size)))
    have hRk : ∀ W, Below w0.heap.size w0 W → W.heap[w.heap.size]? = some (.cells #[.int .i64 0, .int .i64 0, .int .i64 0, .int .i64 0, .int .i64 0, .int .i64 0, .int .i64 0, .string ⟨#[]⟩, .slice none 0 0] 28 (0, 0)) := fun W hb => (hb.block _ (by omega)).trans hR0.out
    replace h5 := Lib.hid h5; replace h6 := Lib.hid h6; replace hRk := Lib.hid hRk
    clear hs3 h4 h3 q3 f3
    go_wp2_with (fail)
    rw [← hW5]
    clear hW5 q5 f5 h5
    rcases Bool.eq_false_or_eq_true (inK (kOf xs)) with hk | hk
    · rw [hk] at hfind
      replace hk := Lib.hid hk
      refine hfind.mono ?_
      rintro e w6 ⟨rfl, b6⟩
      have h7 := (h6.out.keep b6).new #[.string (sOf (wordM (kOf xs))), .int .i64 (usesM (kOf xs)), .int .i64 (kSl (kOf xs)), .int .i64 (kLo (kOf xs)), .int .i64 (kHi (kOf xs))] 55
      replace h7 := Lib.hid h7
      clear hfind b6 q0 h6
      go_wp2_with (fail)
      refine (fields_any _).mono ?_
      rintro e w7 ⟨rfl, rfl⟩
      obtain ⟨W7, hW7⟩ : ∃ W7, W7 = w6.alloc (.cells #[.string (sOf (wordM (kOf xs))), .int .i64 (usesM (kOf xs)), .int .i64 (kSl (kOf xs)), .int .i64 (kLo (kOf xs)), .int .i64 (kHi (kOf xs))] 55) := ⟨_, rfl⟩
      have h8 := h7.out.new fldArr 65
      rw [← hW7] at h8 ⊢
      replace h8 := Lib.hid h8; replace hW7 := Lib.hid hW7
      clear h7
      go_wp2_with (fail)
      go_loopw [36] (fun i wr => ∃ (j : Nat) (A1 : Option Addr) (cq : Nat), j ≤ 5 ∧ i = .int .i64 j ∧ RM w0 g (rdTo xs j).2 w2.heap.size (rdTo xs j).1 A1 cq [(W7.heap.size, fldArr, 65), (w6.heap.size, #[.string (sOf (wordM (kOf xs))), .int .i64 (usesM (kOf xs)), .int .i64 (kSl (kOf xs)), .int .i64 (kLo (kOf xs)), .int .i64 (kHi (kOf xs))], 55)] wr) (fun i _ => 5 - (intOf i).toNat)
      case atStart => exact ⟨0, none, 0, by omega, rfl, h8.out⟩
      case round =>
        clear h8
        revert wr
        intro V1 hrel
        obtain ⟨j, A1, cq, hj, rfl, hM⟩ := hrel
        have hB := (hM.ks _ (List.mem_cons_self ..)).1
        have hK := (hM.ks _ (List.mem_cons_of_mem _ (List.mem_cons_self ..))).1
        dsimp only at hB hK
        have lB := blkX hB; have lK := blkX hK
        by_cases hlt : j < 5
        · obtain ⟨f0, f1, f2, f3, f4, f5⟩ := fld_at j hlt
          have c0 := (blkC hB (j * 6)).trans f0
          have c1 := (blkC hB (j * 6 + 1)).trans f1
          have c2 := (blkC hB (j * 6 + 2)).trans f2
          have c3 := (blkC hB (j * 6 + 3)).trans f3
          have c4 := (blkC hB (j * 6 + 4)).trans f4
          have c5 := (blkC hB (j * 6 + 5)).trans f5
          have y1 : V1.cell? ⟨w6.heap.size, 1, none⟩ = some (.int .i64 (usesM (kOf xs))) := blkC hK 1
          have hM3 := hM.new #[.int .i64 (useBit j), .func (.func (fnOk j)) #[] #[], .func (.func (fnZero j)) #[] #[], .func (.func (fnWr j)) #[] #[], .func (.func (fnTx j)) #[] #[], .func (.func (fnRd j)) #[] #[]] 65
          have hrd := rdj_any hM3 j hlt (fun e => by subst e; exact rdTo_l xs 4 (by omega))
          have hub := use_bit (kOf xs) j hlt
          have hu0 := useBit_pos j
          have hstep : rdTo xs (j + 1) = if fUse j (kOf xs) = true then rdF j (rdTo xs j) else rdTo xs j := rfl
          have hcr := callRd j hlt
          have j0 : (0 : Int) ≤ j := by omega
          have j1 : (j : Int) < 5 := by omega
          replace hM := Lib.hid hM
          clear hB hK f0 f1 f2 f3 f4 f5
          generalize usesM (kOf xs) = us at *
          generalize useBit j = ub at *
          generalize fnOk j = n1' at *
          generalize fnZero j = n2' at *
          generalize fnWr j = n3' at *
          generalize fnTx j = n4' at *
          generalize fnRd j = n5' at *
          rcases Bool.eq_false_or_eq_true (fUse j (kOf xs)) with hu | hu
          · rw [hu] at hub
            rw [if_pos hu] at hstep
            have hub2 : bits .and .i64 us ub = ub := hub
            replace hM3 := Lib.hid hM3; replace hstep := Lib.hid hstep
            clear hub hu
            go_wp2_with (fail)
            refine hrd.mono ?_
            rintro e v2 ⟨rfl, A2, c2', h9⟩
            have h10 := h9.drop
            rw [← hstep.out] at h10
            replace h10 := Lib.hid h10
            clear h9 c0 c1 c2 c3 c4 c5 y1
            go_wp2_with (fail)
            exact ⟨⟨j + 1, A2, c2', by omega, by go_num, h10.out⟩, by simp [intOf]; omega⟩
          · rw [hu] at hub
            rw [if_neg (by rw [hu]; decide)] at hstep
            have hub2 : bits .and .i64 us ub = 0 := hub
            have h10 := hM3.drop
            rw [← hstep] at h10
            replace h10 := Lib.hid h10; replace hstep := Lib.hid hstep
            clear hub hu hrd hM3
            go_wp2_with (fail)
            exact ⟨⟨j + 1, A1, cq, by omega, by go_num, h10.out⟩, by simp [intOf]; omega⟩
        · obtain rfl : j = 5 := by omega
          have hde := dec_end hxl hk.out
          obtain ⟨Ar, cr, hir⟩ := hM.rd
          have hend := end_p hir
          have hln := rdTo_len xs
          have hES : ES V1 A1 (rdTo xs 5).1.l.length (rdTo xs 5).1.l := SL.of_own encEnt_len hM.own rfl
          have hchk := check_m (rdTo xs 5).1 A1 cq V1 (hL.out.keep (kb0.out.trans (hM.bel.mono kb0.out.size))) hES (by omega)
          have hms := hM.ms
          have hRR := hRk.out V1 hM.bel
          have hbz := Lib.hid (kb0.out.trans (hM.bel.mono kb0.out.size))
          obtain ⟨M, hMM⟩ : ∃ M, M = (rdTo xs 5).1 := ⟨_, rfl⟩
          rw [← hMM] at hde hchk hES hms hln
          have hown := hM.own
          rw [← hMM] at hown
          have hbel := hM.bel
          have hMR := hM.ggm
          have z0 : V1.cell? ⟨w2.heap.size, 0, none⟩ = some (.int .i64 M.k) := blkC hms 0
          have z1 : V1.cell? ⟨w2.heap.size, 1, none⟩ = some (.int .i64 M.fr) := blkC hms 1
          have z2 : V1.cell? ⟨w2.heap.size, 2, none⟩ = some (.int .i64 M.tt) := blkC hms 2
          have z3 : V1.cell? ⟨w2.heap.size, 3, none⟩ = some (.int .i64 M.ro) := blkC hms 3
          have z4 : V1.cell? ⟨w2.heap.size, 4, none⟩ = some (.int .i64 M.no) := blkC hms 4
          have z5 : V1.cell? ⟨w2.heap.size, 5, none⟩ = some (.int .i64 M.sl) := blkC hms 5
          have z6 : V1.cell? ⟨w2.heap.size, 6, none⟩ = some (.int .i64 M.nu) := blkC hms 6
          have z7 : V1.cell? ⟨w2.heap.size, 7, none⟩ = some (.string (sOf M.v)) := blkC hms 7
          have z8 : V1.cell? ⟨w2.heap.size, 8, none⟩ = some (.slice A1 M.l.length cq) := blkC hms 8
          rcases end_or (rdTo xs 5).2 with he | he
          · rw [he] at hde hend
            by_cases hc0 : encE M = 0
            · rw [if_pos ⟨rfl, hc0⟩] at hde
              rw [hc0] at hchk
              replace hM := Lib.hid hM; replace hir := Lib.hid hir; replace hES := Lib.hid hES; replace hms := Lib.hid hms; replace hRR := Lib.hid hRR; replace hde := Lib.hid hde; replace hown := Lib.hid hown; replace hbel := Lib.hid hbel; replace hMM := Lib.hid hMM; replace hc0 := Lib.hid hc0
              clear hB hK he
              go_wp2_with (fail)
              refine hend.mono ?_
              rintro e v2 ⟨rfl, rfl⟩
              go_wp2_with (fail)
              refine hchk.mono ?_
              rintro e v2 ⟨rfl, b2⟩
              have hms2 := (b2.block _ (blkX hms.out)).trans hms.out
              have hRR2 := (b2.block _ (blkX hRR.out)).trans hRR.out
              have hown2 := own_keep2 hown.out b2
              clear z0 z1 z2 z3 z4 z5 z6 z7 z8
              have z0 : v2.cell? ⟨w2.heap.size, 0, none⟩ = some (.int .i64 M.k) := blkC hms2 0
              have z1 : v2.cell? ⟨w2.heap.size, 1, none⟩ = some (.int .i64 M.fr) := blkC hms2 1
              have z2 : v2.cell? ⟨w2.heap.size, 2, none⟩ = some (.int .i64 M.tt) := blkC hms2 2
              have z3 : v2.cell? ⟨w2.heap.size, 3, none⟩ = some (.int .i64 M.ro) := blkC hms2 3
              have z4 : v2.cell? ⟨w2.heap.size, 4, none⟩ = some (.int .i64 M.no) := blkC hms2 4
              have z5 : v2.cell? ⟨w2.heap.size, 5, none⟩ = some (.int .i64 M.sl) := blkC hms2 5
              have z6 : v2.cell? ⟨w2.heap.size, 6, none⟩ = some (.int .i64 M.nu) := blkC hms2 6
              have z7 : v2.cell? ⟨w2.heap.size, 7, none⟩ = some (.string (sOf M.v)) := blkC hms2 7
              have z8 : v2.cell? ⟨w2.heap.size, 8, none⟩ = some (.slice A1 M.l.length cq) := blkC hms2 8
              have hRne : ∀ k, rowOf A1 = some k → k ≠ w.heap.size := fun k hk e => by have := (own_row hown2 k hk).1; omega
              have r0 : v2.cell? ⟨w.heap.size, 0, none⟩ = some (.int .i64 0) := blkC hRR2 0
              have r1 : v2.cell? ⟨w.heap.size, 1, none⟩ = some (.int .i64 0) := blkC hRR2 1
              have r2 : v2.cell? ⟨w.heap.size, 2, none⟩ = some (.int .i64 0) := blkC hRR2 2
              have r3 : v2.cell? ⟨w.heap.size, 3, none⟩ = some (.int .i64 0) := blkC hRR2 3
              have r4 : v2.cell? ⟨w.heap.size, 4, none⟩ = some (.int .i64 0) := blkC hRR2 4
              have r5 : v2.cell? ⟨w.heap.size, 5, none⟩ = some (.int .i64 0) := blkC hRR2 5
              have r6 : v2.cell? ⟨w.heap.size, 6, none⟩ = some (.int .i64 0) := blkC hRR2 6
              have r7 : v2.cell? ⟨w.heap.size, 7, none⟩ = some (.string ⟨#[]⟩) := blkC hRR2 7
              have r8 : v2.cell? ⟨w.heap.size, 8, none⟩ = some (.slice none 0 0) := blkC hRR2 8
              have rf := blkF hRR2; have rx := blkX hRR2
              have hbz2 := Lib.hid (hbz.out.trans (b2.mono hbz.out.size))
              replace hown2 := Lib.hid hown2; replace hms2 := Lib.hid hms2; replace hRne := Lib.hid hRne
              clear b2 hchk hend hRR2
              go_wp2_with (fail)
              refine bodyPost_ret (by simp [results, Tryz.results13, go_sem, *]; try with_reducible rfl) rfl ?_
              refine ⟨A1, cq, by rw [hde.out]; rfl, ?_, (by
                iterate 9 (refine Below.setCell ?_ (by simp) _)
                exact hbz2.out)⟩
              rw [hde.out]
              refine World.ownsRow.mono (base := w0.heap.size) ?_ (by omega)
              iterate 9 (refine own_set ?_ hRne.out _ _)
              exact hown2.out
            · rw [if_neg (fun q => hc0 q.2)] at hde
              generalize hz : encE M = z at *
              have hz1 : ¬ z = 0 := hc0
              have hz2 : (z == 0) = false := by simp [hc0]
              replace hM := Lib.hid hM; replace hir := Lib.hid hir; replace hES := Lib.hid hES; replace hms := Lib.hid hms; replace hRR := Lib.hid hRR; replace hde := Lib.hid hde; replace hown := Lib.hid hown; replace hbel := Lib.hid hbel; replace hMM := Lib.hid hMM; replace hz := Lib.hid hz
              clear hB hK he hc0
              go_wp2_with (fail)
              refine hend.mono ?_
              rintro e v2 ⟨rfl, rfl⟩
              go_wp2_with (fail)
              refine hchk.mono ?_
              rintro e v2 ⟨rfl, b2⟩
              have hRR2 := (b2.block _ (blkX hRR.out)).trans hRR.out
              clear z0 z1 z2 z3 z4 z5 z6 z7 z8
              have r0 : v2.cell? ⟨w.heap.size, 0, none⟩ = some (.int .i64 0) := blkC hRR2 0
              have r1 : v2.cell? ⟨w.heap.size, 1, none⟩ = some (.int .i64 0) := blkC hRR2 1
              have r2 : v2.cell? ⟨w.heap.size, 2, none⟩ = some (.int .i64 0) := blkC hRR2 2
              have r3 : v2.cell? ⟨w.heap.size, 3, none⟩ = some (.int .i64 0) := blkC hRR2 3
              have r4 : v2.cell? ⟨w.heap.size, 4, none⟩ = some (.int .i64 0) := blkC hRR2 4
              have r5 : v2.cell? ⟨w.heap.size, 5, none⟩ = some (.int .i64 0) := blkC hRR2 5
              have r6 : v2.cell? ⟨w.heap.size, 6, none⟩ = some (.int .i64 0) := blkC hRR2 6
              have r7 : v2.cell? ⟨w.heap.size, 7, none⟩ = some (.string ⟨#[]⟩) := blkC hRR2 7
              have r8 : v2.cell? ⟨w.heap.size, 8, none⟩ = some (.slice none 0 0) := blkC hRR2 8
              have rf := blkF hRR2; have rx := blkX hRR2
              have hbz2 := Lib.hid (hbz.out.trans (b2.mono hbz.out.size))
              clear b2 hchk hend hRR2
              go_wp2_with (fail)
              refine bodyPost_ret (by simp [results, Tryz.results13, go_sem, *]; try with_reducible rfl) rfl ?_
              exact DecTo.zero hde.out (by
                iterate 9 (refine Below.setCell ?_ (by simp) _)
                exact hbz2.out)
          · rw [he, if_neg (fun q => absurd q.1 (by decide))] at hde
            rw [he] at hend
            have hRR2 := hRR
            have r0 : V1.cell? ⟨w.heap.size, 0, none⟩ = some (.int .i64 0) := blkC hRR2 0
            have r1 : V1.cell? ⟨w.heap.size, 1, none⟩ = some (.int .i64 0) := blkC hRR2 1
            have r2 : V1.cell? ⟨w.heap.size, 2, none⟩ = some (.int .i64 0) := blkC hRR2 2
            have r3 : V1.cell? ⟨w.heap.size, 3, none⟩ = some (.int .i64 0) := blkC hRR2 3
            have r4 : V1.cell? ⟨w.heap.size, 4, none⟩ = some (.int .i64 0) := blkC hRR2 4
            have r5 : V1.cell? ⟨w.heap.size, 5, none⟩ = some (.int .i64 0) := blkC hRR2 5
            have r6 : V1.cell? ⟨w.heap.size, 6, none⟩ = some (.int .i64 0) := blkC hRR2 6
            have r7 : V1.cell? ⟨w.heap.size, 7, none⟩ = some (.string ⟨#[]⟩) := blkC hRR2 7
            have r8 : V1.cell? ⟨w.heap.size, 8, none⟩ = some (.slice none 0 0) := blkC hRR2 8
            have rf := blkF hRR2; have rx := blkX hRR2
            replace hM := Lib.hid hM; replace hir := Lib.hid hir; replace hES := Lib.hid hES; replace hms := Lib.hid hms; replace hRR := Lib.hid hRR; replace hde := Lib.hid hde; replace hown := Lib.hid hown; replace hbel := Lib.hid hbel; replace hMM := Lib.hid hMM
            clear hB hK he hchk hRR2 z0 z1 z2 z3 z4 z5 z6 z7 z8
            go_wp2_with (fail)
            refine hend.mono ?_
            rintro e v2 ⟨rfl, rfl⟩
            go_wp2_with (fail)
            refine bodyPost_ret (by simp [results, Tryz.results13, go_sem, *]; try with_reducible rfl) rfl ?_
            exact DecTo.zero hde.out (by
        iterate 9 (refine Below.setCell ?_ (by simp) _)
        exact hbz.out)
    · rw [hk] at hfind
      have hde := Lib.hid (dec_noK hxl hk)
      replace hk := Lib.hid hk
      refine hfind.mono ?_
      rintro e w6 ⟨rfl, b6⟩
      have h7 := (h6.out.keep b6).new #[.string (sOf (wordM (kOf xs))), .int .i64 (usesM (kOf xs)), .int .i64 (kSl (kOf xs)), .int .i64 (kLo (kOf xs)), .int .i64 (kHi (kOf xs))] 55
      have hRR2 := hRk.out _ h7.bel
      have hbz := Lib.hid (kb0.out.trans (h7.bel.mono kb0.out.size))
      have r0 : (w6.alloc (.cells #[.string (sOf (wordM (kOf xs))), .int .i64 (usesM (kOf xs)), .int .i64 (kSl (kOf xs)), .int .i64 (kLo (kOf xs)), .int .i64 (kHi (kOf xs))] 55)).cell? ⟨w.heap.size, 0, none⟩ = some (.int .i64 0) := blkC hRR2 0
      have r1 : (w6.alloc (.cells #[.string (sOf (wordM (kOf xs))), .int .i64 (usesM (kOf xs)), .int .i64 (kSl (kOf xs)), .int .i64 (kLo (kOf xs)), .int .i64 (kHi (kOf xs))] 55)).cell? ⟨w.heap.size, 1, none⟩ = some (.int .i64 0) := blkC hRR2 1
      have r2 : (w6.alloc (.cells #[.string (sOf (wordM (kOf xs))), .int .i64 (usesM (kOf xs)), .int .i64 (kSl (kOf xs)), .int .i64 (kLo (kOf xs)), .int .i64 (kHi (kOf xs))] 55)).cell? ⟨w.heap.size, 2, none⟩ = some (.int .i64 0) := blkC hRR2 2
      have r3 : (w6.alloc (.cells #[.string (sOf (wordM (kOf xs))), .int .i64 (usesM (kOf xs)), .int .i64 (kSl (kOf xs)), .int .i64 (kLo (kOf xs)), .int .i64 (kHi (kOf xs))] 55)).cell? ⟨w.heap.size, 3, none⟩ = some (.int .i64 0) := blkC hRR2 3
      have r4 : (w6.alloc (.cells #[.string (sOf (wordM (kOf xs))), .int .i64 (usesM (kOf xs)), .int .i64 (kSl (kOf xs)), .int .i64 (kLo (kOf xs)), .int .i64 (kHi (kOf xs))] 55)).cell? ⟨w.heap.size, 4, none⟩ = some (.int .i64 0) := blkC hRR2 4
      have r5 : (w6.alloc (.cells #[.string (sOf (wordM (kOf xs))), .int .i64 (usesM (kOf xs)), .int .i64 (kSl (kOf xs)), .int .i64 (kLo (kOf xs)), .int .i64 (kHi (kOf xs))] 55)).cell? ⟨w.heap.size, 5, none⟩ = some (.int .i64 0) := blkC hRR2 5
      have r6 : (w6.alloc (.cells #[.string (sOf (wordM (kOf xs))), .int .i64 (usesM (kOf xs)), .int .i64 (kSl (kOf xs)), .int .i64 (kLo (kOf xs)), .int .i64 (kHi (kOf xs))] 55)).cell? ⟨w.heap.size, 6, none⟩ = some (.int .i64 0) := blkC hRR2 6
      have r7 : (w6.alloc (.cells #[.string (sOf (wordM (kOf xs))), .int .i64 (usesM (kOf xs)), .int .i64 (kSl (kOf xs)), .int .i64 (kLo (kOf xs)), .int .i64 (kHi (kOf xs))] 55)).cell? ⟨w.heap.size, 7, none⟩ = some (.string ⟨#[]⟩) := blkC hRR2 7
      have r8 : (w6.alloc (.cells #[.string (sOf (wordM (kOf xs))), .int .i64 (usesM (kOf xs)), .int .i64 (kSl (kOf xs)), .int .i64 (kLo (kOf xs)), .int .i64 (kHi (kOf xs))] 55)).cell? ⟨w.heap.size, 8, none⟩ = some (.slice none 0 0) := blkC hRR2 8
      have rf := blkF hRR2; have rx := blkX hRR2
      replace h7 := Lib.hid h7
      clear hfind b6 q0 h6 hRR2
      go_wp2_with (fail)
      refine bodyPost_ret (by simp [results, Tryz.results13, go_sem, *]; try with_reducible rfl) rfl ?_
      exact DecTo.zero hde.out (by
        iterate 9 (refine Below.setCell ?_ (by simp) _)
        exact hbz.out)
end Go.Proofs.YtlinjanflenljaaGreatDoor
