/- The program's change of a counter: one contract; what its callers ask of it, in plain words. -/
import Derived.Test.YtgnjnpddehdmcaaGreatDoorRange
import Derived.Test.YtgnjnpddehdmcaaGreatDoorHas
import Derived.Test.YtgnjnpddehdmcaaGreatDoorTake
import Derived.WalkSpells
import Derived.Carry
import Derived.Test.YtgnjnpddehdmcaaGreatDoorCChg
namespace Go.Proofs.YtgnjnpddehdmcaaGreatDoor
open Go.RowKit Go.Shelf
set_option linter.unusedSimpArgs false
set_option linter.unusedVariables false
set_option linter.unusedSectionVars false
set_option maxRecDepth 10000
abbrev Cn := Int × Int × Int × Int × Int
def cnV (c : Cn) : Value := .agg #[.int .i64 c.1, .int .i64 c.2.1, .int .i64 c.2.2.1, .int .i64 c.2.2.2.1, .int .i64 c.2.2.2.2]
def zCn : Cn := (0, 0, 0, 0, 0)
def ckC (c : Cn) : Bool := Co.ckOK c.1 c.2.1 c.2.2.1 c.2.2.2.1 c.2.2.2.2
abbrev Ct := List (ByteArray × Cn)
theorem ltS : LtOK lessB where
 irr := less_irr
 trn := fun h1 h2 => less_trans h1 h2
 tot := fun {a b} h1 h2 => by rw [less_not, Bool.not_eq_true', Bool.or_eq_false_iff]; exact ⟨h1, by simpa using fun e => h2 e.symm⟩
theorem zeroC (w : World) : (zeroValue 58).run Tryz.prog w = .ok (cnV zCn) w := Tryz.zeroValue58 w
theorem undC : Tryz.prog.underlying 154 = some (.map 9 58) := Tryz.underlying154
theorem undS : Tryz.prog.underlying 9 = some .string := Tryz.underlying9
structure StW (base St M : Nat) (l : Ct) (W : World) : Prop where
 ge : base ≤ St
 gm : base ≤ M
 blk : W.heap[St]? = some (.cells #[.map (some M)] 156 (0, 0))
 map : MapS Tryz.prog 9 cnV W M l
 ord : AOrd lessB l
 len : l.length ≤ 64
 ok : ∀ x ∈ l, nameB x.1 = true ∧ ckC x.2 = true
section
variable {base St M : Nat} {l : Ct} {w W W' : World}
theorem StW.lt (h : StW base St M l W) : St < W.heap.size := blkX h.blk
theorem StW.mlt (h : StW base St M l W) : M < W.heap.size := h.map.lt
theorem StW.ne (h : StW base St M l W) : St ≠ M := by
 rintro rfl
 obtain ⟨D, ⟨es, clock, hb, _⟩, _⟩ := h.map
 rw [h.blk] at hb; cases hb
theorem StW.keep (h : StW base St M l W) (h1 : W'.heap[St]? = W.heap[St]?) (h2 : W'.heap[M]? = W.heap[M]?) : StW base St M l W' :=
 ⟨h.ge, h.gm, h1.trans h.blk, MapOf.keep h.map h2, h.ord, h.len, h.ok⟩
theorem StW.below (h : StW base St M l W) (hb : Below W.heap.size W W') : StW base St M l W' := h.keep (hb.block _ h.lt) (hb.block _ h.mlt)
theorem StW.chg {S : Nat → Prop} (h : StW base St M l W) (hc : Chg S W W') (h1 : ¬ S St) (h2 : ¬ S M) : StW base St M l W' := h.keep (hc.block _ h.lt h1) (hc.block _ h.mlt h2)
theorem name_max {s : ByteArray} (h : nameB s = true) : s.size ≤ maxLen := by
 have := name_sz h
 unfold maxLen; omega
theorem StW.look (h : StW base St M l W) (s : ByteArray) (hs : s.size ≤ maxLen) : (Instr.lookup 154 (.map (some M)) (.string s) true).run Tryz.prog W = .ok (.tuple #[cnV ((lookA l s).getD zCn), .bool (hasA l s)]) W := by
 rw [MapS.look_ok h.map undS undC (zeroC W) s hs]
 cases lookA l s <;> rfl
end
theorem stNew_any (w : World) : Calls Tryz.prog 34 #[] w fun e w' => ∃ St M, e = .returned (.pointer (some ⟨St, 0, none⟩)) ∧ StW w.heap.size St M [] w' ∧ Below w.heap.size w w' := by
 have hm := MapOf.made w Tryz.prog 9
 have hmk : (Instr.makeMap 154 none).run Tryz.prog w = .ok (.map (some w.heap.size)) (w.alloc (.map #[] 0)) := run_makeMap _ w
 go_enter Tryz.func34, Tryz.ntmps34
 go_wp2_with (fail)
 go_ret
 refine ⟨w.heap.size + 1, w.heap.size, rfl, ⟨by omega, by omega, hpNewAt _ (by simp), ?_, List.Pairwise.nil, by simp, by simp⟩, ((Below.refl _ w).alloc (Nat.le_refl _) _).alloc (by simp) _⟩
 exact (MapOf.congr hm (f' := sF cnV []) (fun key kl hk => by unfold sF; split <;> rfl)).below ((Below.refl _ _).alloc (Nat.le_refl _) _)
theorem stValid_any {base St M : Nat} {l : Ct} {w : World} (h : StW base St M l w) : Calls Tryz.prog 90 #[.pointer (some ⟨St, 0, none⟩)] w fun e w' => e = .returned (.bool true) ∧ w' = w := by
 have c0 := blkC h.blk 0
 simp only [List.getElem?_toArray, List.getElem?_cons_zero] at c0
 have hq := fun W => run_neq_map_nil (P := Tryz.prog) W 154 _ _ (some M) undC
 have hlt := h.lt
 replace h := Lh h
 go_enter Tryz.func90, Tryz.ntmps90
 go_wp2_with (fail)
 go_ret
 exact ⟨rfl, rfl⟩
end Go.Proofs.YtgnjnpddehdmcaaGreatDoor

namespace Go.Proofs.YtgnjnpddehdmcaaGreatDoor
open Go.RowKit Go.Shelf
set_option linter.unusedSimpArgs false
set_option linter.unusedVariables false
set_option linter.unusedSectionVars false
set_option maxRecDepth 10000
def stE (l : Ct) (s : ByteArray) : Int := if hasA l s then 0 else 5
def stV (l : Ct) (s : ByteArray) : Cn := (lookA l s).getD zCn
set_option maxHeartbeats 4000000 in
theorem find_any' {base St M : Nat} {l : Ct} {w : World} (h : StW base St M l w) (s : ByteArray) (hs : s.size ≤ maxLen) : Calls Tryz.prog 94 #[.pointer (some ⟨St, 0, none⟩), .string s] w fun e w' => e = .returned (.tuple #[cnV (stV l s), .int .i64 (stE l s)]) ∧ Below w.heap.size w w' := by
 obtain ⟨W1, hW1⟩ : ∃ W1, W1 = w.alloc (.cells #[.int .i64 0, .int .i64 0, .int .i64 0, .int .i64 0, .int .i64 0] 58) := ⟨_, rfl⟩
 have k1 : Below w.heap.size w W1 := by rw [hW1]; exact (Below.refl _ w).alloc (Nat.le_refl _) _
 have h1 := h.below k1
 have hv := stValid_any h1
 have hlk := h1.look s hs
 have c0 := blkC h1.blk 0
 simp only [List.getElem?_toArray, List.getElem?_cons_zero] at c0
 have hlt := h.lt
 rw [hW1] at hlk c0
 obtain ⟨x1, x2, x3, x4, x5, hx⟩ : ∃ x1 x2 x3 x4 x5, stV l s = (x1, x2, x3, x4, x5) := ⟨_, _, _, _, _, rfl⟩
 have hsv : (lookA l s).getD zCn = (x1, x2, x3, x4, x5) := hx
 rw [hsv] at hlk
 rw [hx]
 simp only [cnV] at hlk ⊢
 have hN := hpNew w (.cells #[.int .i64 0, .int .i64 0, .int .i64 0, .int .i64 0, .int .i64 0] 58)
 have hE : stE l s = if hasA l s then 0 else 5 := rfl
 have hz : hasA l s = false → stV l s = zCn := fun q => by unfold stV; rw [hasA_false.1 q]; rfl
 replace h := Lh h; replace h1 := Lh h1; replace hx := Lh hx; replace hsv := Lh hsv; replace k1 := Lh k1
 generalize stE l s = ee at *
 cases hh : hasA l s with
 | true =>
  rw [hh] at hlk hE
  obtain rfl : ee = 0 := hE
  replace hh := Lh hh; replace hz := Lh hz; replace hN := Lh hN
  go_enter Tryz.func94, Tryz.ntmps94
  go_wp2_with (fail)
  rw [← hW1]
  refine hv.mono ?_
  rintro e w2 ⟨rfl, rfl⟩
  try rw [hW1]
  go_wp2_with (fail)
  refine bodyPost_ret (by simp [results, Tryz.results94, go_sem, *]; try with_reducible rfl) rfl ?_
  exact ⟨rfl, ((Below.refl _ w).alloc (Nat.le_refl _) _).alloc (by simp) _⟩
 | false =>
  have hzz := hx.out.symm.trans (hz hh)
  simp only [zCn, Prod.mk.injEq] at hzz
  obtain ⟨rfl, rfl, rfl, rfl, rfl⟩ := hzz
  rw [hh] at hlk hE
  obtain rfl : ee = 5 := hE
  replace hh := Lh hh; replace hz := Lh hz; replace hN := Lh hN
  go_enter Tryz.func94, Tryz.ntmps94
  go_wp2_with (fail)
  rw [← hW1]
  refine hv.mono ?_
  rintro e w2 ⟨rfl, rfl⟩
  try rw [hW1]
  go_wp2_with (fail)
  refine bodyPost_ret (by simp [results, Tryz.results94, go_sem, *]; try with_reducible rfl) rfl ?_
  exact ⟨rfl, ((Below.refl _ w).alloc (Nat.le_refl _) _).alloc (by simp) _⟩
theorem stGet_any {base St M : Nat} {l : Ct} {w : World} (h : StW base St M l w) (s : ByteArray) (hs : s.size ≤ maxLen) : Calls Tryz.prog 55 #[.pointer (some ⟨St, 0, none⟩), .string s] w fun e w' => e = .returned (.tuple #[cnV (stV l s), .int .i64 (stE l s)]) ∧ Below w.heap.size w w' := by
 obtain ⟨W1, hW1⟩ : ∃ W1, W1 = w.alloc (.cells #[.int .i64 0, .int .i64 0, .int .i64 0, .int .i64 0, .int .i64 0] 58) := ⟨_, rfl⟩
 have k1 : Below w.heap.size w W1 := by rw [hW1]; exact (Below.refl _ w).alloc (Nat.le_refl _) _
 have q1 : W1.heap[w.heap.size]? = some (.cells #[.int .i64 0, .int .i64 0, .int .i64 0, .int .i64 0, .int .i64 0] 58 (0, 0)) := by rw [hW1]; exact hpNew _ _
 have hf := find_any' (h.below k1) s hs
 simp only [cnV] at hf ⊢
 generalize stV l s = cc at *
 obtain ⟨x1, x2, x3, x4, x5⟩ := cc
 simp only at hf ⊢
 generalize stE l s = ee at *
 replace h := Lh h; replace k1 := Lh k1; replace q1 := Lh q1
 go_enter Tryz.func55, Tryz.ntmps55
 go_wp2_with (fail)
 rw [← hW1]
 replace hW1 := Lh hW1
 refine hf.mono ?_
 rintro e w2 ⟨rfl, b2⟩
 have q2 := (b2.block _ (blkX q1.out)).trans q1.out
 have k2 := Lh (k1.out.trans (b2.mono k1.out.size))
 have s0 := blkC q2 0; have s1 := blkC q2 1; have s2 := blkC q2 2; have s3 := blkC q2 3; have s4 := blkC q2 4; have sf := blkF q2; have sx := blkX q2
 simp only [List.getElem?_toArray, List.getElem?_cons_zero, List.getElem?_cons_succ] at s0 s1 s2 s3 s4
 replace q2 := Lh q2
 clear b2 hf
 go_wp2_with (fail)
 refine bodyPost_ret (by simp [results, Tryz.results55, go_sem, *]; try with_reducible rfl) rfl ?_
 exact ⟨rfl, ((((k2.out.setCell (p := ⟨w.heap.size, 0, none⟩) (by simp only; omega) _).setCell (p := ⟨w.heap.size, 1, none⟩) (by simp only; omega) _).setCell (p := ⟨w.heap.size, 2, none⟩) (by simp only; omega) _).setCell (p := ⟨w.heap.size, 3, none⟩) (by simp only; omega) _).setCell (p := ⟨w.heap.size, 4, none⟩) (by simp only; omega) _⟩
theorem stLen_any {base St M : Nat} {l : Ct} {w : World} (h : StW base St M l w) : Calls Tryz.prog 37 #[.pointer (some ⟨St, 0, none⟩)] w fun e w' => e = .returned (.int .i64 (l.length : Int)) ∧ w' = w := by
 have hv := stValid_any h
 have c0 := blkC h.blk 0
 simp only [List.getElem?_toArray, List.getElem?_cons_zero] at c0
 have hlen := fun ty => MapOf.len h.map undC ty
 have hlt := h.lt
 replace h := Lh h
 go_enter Tryz.func37, Tryz.ntmps37
 go_wp2_with (fail)
 refine hv.mono ?_
 rintro e w2 ⟨rfl, rfl⟩
 go_wp2_with (fail)
 go_ret
 exact ⟨rfl, rfl⟩
end Go.Proofs.YtgnjnpddehdmcaaGreatDoor

namespace Go.Proofs.YtgnjnpddehdmcaaGreatDoor.Co
open Go.RowKit
set_option linter.unusedSimpArgs false
set_option linter.unusedVariables false
theorem change_any (v up dn lo hi d val res wr : Int) (hb : inNum d = true → (-1152921504606846976 ≤ val ∧ val ≤ 1152921504606846976) ∧ (-1152921504606846976 ≤ res ∧ res ≤ 1152921504606846976)) (hz : val = 0 ∨ val ≠ 0) (w : World) :
  Calls Tryz.prog 316 #[.agg #[.int .i64 v, .int .i64 up, .int .i64 dn, .int .i64 lo, .int .i64 hi], .int .i64 d, .int .i64 val, .int .i64 res, .int .i64 wr] w fun e w' => e = .returned (chR v up dn lo hi d val res wr).val ∧ Below w.heap.size w w' := by
 rcases Bool.eq_false_or_eq_true (ckOK v up dn lo hi) with hok | hok
 ·
  by_cases hd : inNum d = true
  ·
   obtain ⟨⟨v1, v2⟩, r1, r2⟩ := hb hd
   obtain ⟨hd1, hd2⟩ := (inNum_iff d).1 hd
   have hlin := ckOK_lin hok
   rcases Int.lt_or_le d 0 with hs | hs
   ·
    by_cases hv : val = 0
    ·
     subst hv
     by_cases hr : res = 0
     ·
      subst hr; exact change_n00 v up dn lo hi d 0 0 wr hs hok hd1 hd2 w
     ·
      rcases Bool.eq_false_or_eq_true (ckOK v up (dn + res) lo hi) with hq | hq
      ·
       exact change_n0ok v up dn lo hi d 0 res wr hs hok hd1 hd2 (by omega) (by omega) r1 r2 (by omega) hq w
      ·
       exact change_n0bad v up dn lo hi d 0 res wr hs hok hd1 hd2 (by omega) (by omega) r1 r2 (by omega) hq w
    ·
     rcases Bool.eq_false_or_eq_true (ckOK (v + val) up (dn + res) lo hi) with hq | hq
     ·
      exact change_nvok v up dn lo hi d val res wr hs hok hd1 hd2 v1 v2 r1 r2 (by omega) hq w
     ·
      exact change_nvbad v up dn lo hi d val res wr hs hok hd1 hd2 v1 v2 r1 r2 (by omega) hq w
   ·
    by_cases hv : val = 0
    ·
     subst hv
     by_cases hr : res = 0
     ·
      subst hr; exact change_p00 v up dn lo hi d 0 0 wr hs hok hd1 hd2 w
     ·
      rcases Bool.eq_false_or_eq_true (ckOK v (up + res) dn lo hi) with hq | hq
      ·
       exact change_p0ok v up dn lo hi d 0 res wr hs hok hd1 hd2 (by omega) (by omega) r1 r2 (by omega) hq w
      ·
       exact change_p0bad v up dn lo hi d 0 res wr hs hok hd1 hd2 (by omega) (by omega) r1 r2 (by omega) hq w
    ·
     rcases Bool.eq_false_or_eq_true (ckOK (v + val) (up + res) dn lo hi) with hq | hq
     ·
      exact change_pvok v up dn lo hi d val res wr hs hok hd1 hd2 v1 v2 r1 r2 (by omega) hq w
     ·
      exact change_pvbad v up dn lo hi d val res wr hs hok hd1 hd2 v1 v2 r1 r2 (by omega) hq w
  ·
   exact change_bad2 v up dn lo hi d val res wr hok (by rw [inNum_iff] at hd; omega) w
 ·
  exact change_bad1 v up dn lo hi d val res wr hok w

def szR (d : Int) : Int := if d < 0 then wrap64 (-d) else d
theorem wrap64_neg {d : Int} (h1 : -1152921504606846976 ≤ d) (h2 : d ≤ 1152921504606846976) : wrap64 (-d) = -d := by unfold wrap64; omega
theorem chR_do (v up dn lo hi d : Int) : chR v up dn lo hi d d (szR d) 7 = doR v up dn lo hi d := by
 by_cases h : ckOK v up dn lo hi = true ∧ inNum d = true
 ·
  have h12 := h
  obtain ⟨h1, h2⟩ := h
  have hl := ckOK_lin h1
  obtain ⟨h3, h4⟩ := (inNum_iff d).1 h2
  rcases Int.lt_or_le d 0 with hs | hs
  ·
   have hs' : ¬ 0 ≤ d := by omega
   have hz : szR d = -d := by unfold szR; rw [if_pos hs, wrap64_neg h3 h4]
   have hz2 : wrap64 (-d) = -d := wrap64_neg h3 h4
   have hz3 : wrap64 (-szR d) = d := by rw [hz]; unfold wrap64; omega
   rw [hz]
   unfold chR doR
   rw [if_pos h12, if_pos h12, if_pos hs, if_neg hs']
   by_cases hq : ckOK (v + d) up (dn + (-d)) lo hi = true
   ·
    have := ckOK_lin hq
    rewrite [if_pos hq, if_neg (by omega)]; unfold CR.ok; congr 1 <;> omega
   ·
    rw [if_neg hq, if_pos]; rw [ckOK_iff] at hq; omega
  ·
   have hs' : ¬ d < 0 := by omega
   have hz : szR d = d := by unfold szR; rw [if_neg hs']
   have hz2 : wrap64 (-d) = -d := wrap64_neg h3 h4
   have hz3 : wrap64 (-szR d) = -d := by rw [hz]; exact hz2
   rw [hz]
   unfold chR doR
   rw [if_pos h12, if_pos h12, if_neg hs', if_pos hs]
   by_cases hq : ckOK (v + d) (up + d) dn lo hi = true
   ·
    have := ckOK_lin hq
    rewrite [if_pos hq, if_neg (by omega)]; unfold CR.ok; congr 1 <;> omega
   ·
    rw [if_neg hq, if_pos]; rw [ckOK_iff] at hq; omega
 ·
  unfold chR doR; rw [if_neg h, if_neg h]
theorem chR_undo (v up dn lo hi d : Int) : chR v up dn lo hi d (wrap64 (-d)) (wrap64 (-szR d)) 9 = undoR v up dn lo hi d := by
 by_cases h : ckOK v up dn lo hi = true ∧ inNum d = true
 ·
  have h12 := h
  obtain ⟨h1, h2⟩ := h
  have hl := ckOK_lin h1
  obtain ⟨h3, h4⟩ := (inNum_iff d).1 h2
  rcases Int.lt_or_le d 0 with hs | hs
  ·
   have hs' : ¬ 0 ≤ d := by omega
   have hz : szR d = -d := by unfold szR; rw [if_pos hs, wrap64_neg h3 h4]
   have hz2 : wrap64 (-d) = -d := wrap64_neg h3 h4
   have hz3 : wrap64 (-szR d) = d := by rw [hz]; unfold wrap64; omega
   rw [hz3, hz2]
   unfold chR undoR
   rw [if_pos h12, if_pos h12, if_pos hs, if_neg hs']
   by_cases hq : ckOK (v + (-d)) up (dn + d) lo hi = true
   ·
    have := ckOK_lin hq
    rewrite [if_pos hq, if_neg (by omega)]; unfold CR.ok; congr 1 <;> omega
   ·
    rw [if_neg hq, if_pos]; rw [ckOK_iff] at hq; omega
  ·
   have hs' : ¬ d < 0 := by omega
   have hz : szR d = d := by unfold szR; rw [if_neg hs']
   have hz2 : wrap64 (-d) = -d := wrap64_neg h3 h4
   have hz3 : wrap64 (-szR d) = -d := by rw [hz]; exact hz2
   rw [hz3, hz2]
   unfold chR undoR
   rw [if_pos h12, if_pos h12, if_neg hs', if_pos hs]
   by_cases hq : ckOK (v + (-d)) (up + (-d)) dn lo hi = true
   ·
    have := ckOK_lin hq
    rewrite [if_pos hq, if_neg (by omega)]; unfold CR.ok; congr 1 <;> omega
   ·
    rw [if_neg hq, if_pos]; rw [ckOK_iff] at hq; omega
 ·
  unfold chR undoR; rw [if_neg h, if_neg h]
theorem chR_free (v up dn lo hi d : Int) : chR v up dn lo hi d 0 (wrap64 (-szR d)) 9 = freeR v up dn lo hi d := by
 by_cases h : ckOK v up dn lo hi = true ∧ inNum d = true
 ·
  have h12 := h
  obtain ⟨h1, h2⟩ := h
  have hl := ckOK_lin h1
  obtain ⟨h3, h4⟩ := (inNum_iff d).1 h2
  rcases Int.lt_or_le d 0 with hs | hs
  ·
   have hs' : ¬ 0 ≤ d := by omega
   have hz : szR d = -d := by unfold szR; rw [if_pos hs, wrap64_neg h3 h4]
   have hz2 : wrap64 (-d) = -d := wrap64_neg h3 h4
   have hz3 : wrap64 (-szR d) = d := by rw [hz]; unfold wrap64; omega
   rw [hz3]
   unfold chR freeR
   rw [if_pos h12, if_pos h12, if_pos hs, if_neg hs']
   by_cases hq : ckOK (v + 0) up (dn + d) lo hi = true
   ·
    have := ckOK_lin hq
    rewrite [if_pos hq, if_neg (by omega)]; unfold CR.ok; congr 1 <;> omega
   ·
    rw [if_neg hq, if_pos]; rw [ckOK_iff] at hq; omega
  ·
   have hs' : ¬ d < 0 := by omega
   have hz : szR d = d := by unfold szR; rw [if_neg hs']
   have hz2 : wrap64 (-d) = -d := wrap64_neg h3 h4
   have hz3 : wrap64 (-szR d) = -d := by rw [hz]; exact hz2
   rw [hz3]
   unfold chR freeR
   rw [if_pos h12, if_pos h12, if_neg hs', if_pos hs]
   by_cases hq : ckOK (v + 0) (up + (-d)) dn lo hi = true
   ·
    have := ckOK_lin hq
    rewrite [if_pos hq, if_neg (by omega)]; unfold CR.ok; congr 1 <;> omega
   ·
    rw [if_neg hq, if_pos]; rw [ckOK_iff] at hq; omega
 ·
  unfold chR freeR; rw [if_neg h, if_neg h]
theorem szB {d : Int} (h : inNum d = true) : (-1152921504606846976 ≤ d ∧ d ≤ 1152921504606846976) ∧ (-1152921504606846976 ≤ szR d ∧ szR d ≤ 1152921504606846976) := by
 have h1 := (inNum_iff d).1 h
 refine ⟨h1, ?_⟩
 unfold szR; split <;> (try rw [wrap64_neg h1.1 h1.2]) <;> omega
theorem negB {d : Int} (h : -1152921504606846976 ≤ d ∧ d ≤ 1152921504606846976) : -1152921504606846976 ≤ wrap64 (-d) ∧ wrap64 (-d) ≤ 1152921504606846976 := by rw [wrap64_neg h.1 h.2]; omega
theorem size_sz (d : Int) (h1 : -9223372036854775808 ≤ d) (h2 : d ≤ 9223372036854775807) (w : World) :
  Calls Tryz.prog 317 #[.int .i64 d] w fun e w' => e = .returned (.int .i64 (szR d)) ∧ w = w' := size_any d h1 h2 w
theorem do_ch (v up dn lo hi d : Int) (w : World) : Calls Tryz.prog 316 #[.agg #[.int .i64 v, .int .i64 up, .int .i64 dn, .int .i64 lo, .int .i64 hi], .int .i64 d, .int .i64 d, .int .i64 (szR d), .int .i64 7] w fun e w' => e = .returned (doR v up dn lo hi d).val ∧ Below w.heap.size w w' :=
 (change_any v up dn lo hi d d (szR d) 7 (fun h => szB h) (by omega) w).mono fun e w' hh => ⟨by rw [← chR_do]; exact hh.1, hh.2⟩
theorem undo_ch (v up dn lo hi d : Int) (w : World) : Calls Tryz.prog 316 #[.agg #[.int .i64 v, .int .i64 up, .int .i64 dn, .int .i64 lo, .int .i64 hi], .int .i64 d, .int .i64 (wrap64 (-d)), .int .i64 (wrap64 (-szR d)), .int .i64 9] w fun e w' => e = .returned (undoR v up dn lo hi d).val ∧ Below w.heap.size w w' :=
 (change_any v up dn lo hi d (wrap64 (-d)) (wrap64 (-szR d)) 9 (fun h => ⟨negB (szB h).1, negB (szB h).2⟩) (by omega) w).mono fun e w' hh => ⟨by rw [← chR_undo]; exact hh.1, hh.2⟩
theorem free_ch (v up dn lo hi d : Int) (w : World) : Calls Tryz.prog 316 #[.agg #[.int .i64 v, .int .i64 up, .int .i64 dn, .int .i64 lo, .int .i64 hi], .int .i64 d, .int .i64 0, .int .i64 (wrap64 (-szR d)), .int .i64 9] w fun e w' => e = .returned (freeR v up dn lo hi d).val ∧ Below w.heap.size w w' :=
 (change_any v up dn lo hi d 0 (wrap64 (-szR d)) 9 (fun h => ⟨by omega, negB (szB h).2⟩) (by omega) w).mono fun e w' hh => ⟨by rw [← chR_free]; exact hh.1, hh.2⟩
theorem wrapI (n : Int) : IntKind.i64.wrap n = wrap64 n := by rw [IntKind.wrap_i64]; unfold wrap64; omega
theorem undo_chW (v up dn lo hi d : Int) (w : World) : Calls Tryz.prog 316 #[.agg #[.int .i64 v, .int .i64 up, .int .i64 dn, .int .i64 lo, .int .i64 hi], .int .i64 d, .int .i64 (IntKind.i64.wrap (-d)), .int .i64 (IntKind.i64.wrap (-szR d)), .int .i64 9] w fun e w' => e = .returned (undoR v up dn lo hi d).val ∧ Below w.heap.size w w' := by
 rw [wrapI, wrapI]; exact undo_ch v up dn lo hi d w
theorem free_chW (v up dn lo hi d : Int) (w : World) : Calls Tryz.prog 316 #[.agg #[.int .i64 v, .int .i64 up, .int .i64 dn, .int .i64 lo, .int .i64 hi], .int .i64 d, .int .i64 0, .int .i64 (IntKind.i64.wrap (-szR d)), .int .i64 9] w fun e w' => e = .returned (freeR v up dn lo hi d).val ∧ Below w.heap.size w w' := by
 rw [wrapI]; exact free_ch v up dn lo hi d w
end Go.Proofs.YtgnjnpddehdmcaaGreatDoor.Co
