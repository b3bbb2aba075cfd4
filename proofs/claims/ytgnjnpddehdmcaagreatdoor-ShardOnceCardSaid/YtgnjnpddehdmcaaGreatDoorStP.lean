/- The store: Put. -/
import Derived.Test.YtgnjnpddehdmcaaGreatDoorCChgB
import Derived.Test.YtgnjnpddehdmcaaGreatDoorHas
import Derived.Test.YtgnjnpddehdmcaaGreatDoorOrd
namespace Go.Proofs.YtgnjnpddehdmcaaGreatDoor
open Go.RowKit Go.Shelf
set_option linter.unusedSimpArgs false
set_option linter.unusedVariables false
set_option linter.unusedSectionVars false
set_option maxRecDepth 10000
def stPutE (l : Ct) (s : ByteArray) (c : Cn) : Int := if nameB s then (if ckC c then (if hasA l s then 6 else if 64 ≤ l.length then 4 else 0) else 2) else 14
def stPutL (l : Ct) (s : ByteArray) (c : Cn) : Ct := if stPutE l s c = 0 then putA lessB l s c else l
structure StTo (base St M : Nat) (l : Ct) (w w' : World) : Prop where
 st : StW base St M l w'
 chg : Chg (fun k => k = M) w w'
theorem StTo.same {base St M : Nat} {l : Ct} {w w' : World} (h : StW base St M l w) (hb : Below w.heap.size w w') : StTo base St M l w w' := ⟨h.below hb, Chg.of_below hb _⟩
theorem StTo.pre {base St M : Nat} {l : Ct} {w w0 w' : World} (h : StTo base St M l w w') (hb : Below w0.heap.size w0 w) : StTo base St M l w0 w' := ⟨h.st, (Chg.of_below hb _).trans h.chg (fun _ _ q => q)⟩
theorem StW.put {base St M : Nat} {l : Ct} {W : World} (h : StW base St M l W) (s : ByteArray) (c : Cn) (hn : nameB s = true) (hc : ckC c = true) (hl : hasA l s = true ∨ l.length < 64) :
  ∃ W', (Instr.mapUpdate 154 (.map (some M)) (.string s) (cnV c)).run Tryz.prog W = .ok () W' ∧ StTo base St M (putA lessB l s c) W W' := by
 have hlen := h.len
 obtain ⟨W', hr, hm, ht⟩ := MapS.store (lt := lessB) h.map undS undC (by unfold maxLen; omega) s (name_max hn) c
 have hch := turned_chg ht
 refine ⟨W', hr, ⟨h.ge, h.gm, (hch.block _ h.lt h.ne).trans h.blk, hm, ord_putA ltS h.ord, ?_, fun x hx => ?_⟩, hch⟩
 ·
  rw [len_putA]
  split
  ·
   exact hlen
  ·
   rename_i hh
   rcases hl with q | q
   ·
    exact absurd q hh
   ·
    omega
 ·
  rcases mem_putA hx with rfl | hx
  ·
   exact ⟨hn, hc⟩
  ·
   exact h.ok x hx
set_option maxHeartbeats 16000000 in
theorem stPut_any {base St M : Nat} {l : Ct} {w : World} (h : StW base St M l w) (s : ByteArray) (hs : s.size ≤ 140737488355328) (x1 x2 x3 x4 x5 : Int) : Calls Tryz.prog 39 #[.pointer (some ⟨St, 0, none⟩), .string s, .agg #[.int .i64 x1, .int .i64 x2, .int .i64 x3, .int .i64 x4, .int .i64 x5]] w fun e w' => e = .returned (.int .i64 (stPutE l s (x1, x2, x3, x4, x5))) ∧ StTo base St M (stPutL l s (x1, x2, x3, x4, x5)) w w' := by
 obtain ⟨W1, hW1⟩ : ∃ W1, W1 = w.alloc (.cells #[.int .i64 x1, .int .i64 x2, .int .i64 x3, .int .i64 x4, .int .i64 x5] 58) := ⟨_, rfl⟩
 have k1 : Below w.heap.size w W1 := by rw [hW1]; exact (Below.refl _ w).alloc (Nat.le_refl _) _
 have q1 : W1.heap[w.heap.size]? = some (.cells #[.int .i64 x1, .int .i64 x2, .int .i64 x3, .int .i64 x4, .int .i64 x5] 58 (0, 0)) := by rw [hW1]; exact hpNew _ _
 have hf := find_any' (h.below k1) s (by unfold maxLen; omega)
 have hn := fun W => name_any s hs W
 have hk := fun W => Co.check_any x1 x2 x3 x4 x5 W
 have hlen := h.len
 obtain ⟨ee, hee⟩ : ∃ z, z = stPutE l s (x1, x2, x3, x4, x5) := ⟨_, rfl⟩
 obtain ⟨ll, hll⟩ : ∃ z, z = stPutL l s (x1, x2, x3, x4, x5) := ⟨_, rfl⟩
 rw [← hee, ← hll]
 simp only [cnV] at hf
 generalize stV l s = cc at *
 obtain ⟨y1, y2, y3, y4, y5⟩ := cc
 simp only at hf
 have hEE : stE l s = if hasA l s then 0 else 5 := rfl
 generalize stE l s = fe at *
 unfold stPutL at hll; rw [← hee] at hll; unfold stPutE at hee
 have hkE : Co.ckE x1 x2 x3 x4 x5 = if ckC (x1, x2, x3, x4, x5) then 0 else 2 := rfl
 generalize Co.ckE x1 x2 x3 x4 x5 = ke at *
 replace h := Lh h; replace k1 := Lh k1; replace q1 := Lh q1
 cases hh : hasA l s with
 | true =>
  cases hn1 : nameB s with
  | false =>
   simp only [hn1] at hn hee
   replace hn1 := Lh hn1
   simp only [hh, if_true, Bool.false_eq_true, if_false] at hEE hee
   subst hEE
   have he0 : ee = 14 := by simpa using hee
   subst he0
   have hl0 : ll = l := by simpa using hll
   rw [hl0]
   clear hl0 hll hee
   replace hh := Lh hh
   go_enter Tryz.func39, Tryz.ntmps39
   go_wp2_with (fail)
   rw [← hW1]
   replace hW1 := Lh hW1
   refine hf.mono ?_
   rintro e w2 ⟨rfl, b2⟩
   have k2 := Lh (k1.out.trans (b2.mono k1.out.size))
   have q2 := (b2.block _ (blkX q1.out)).trans q1.out
   clear b2 hf
   obtain ⟨W3, hW3⟩ : ∃ W3, W3 = w2.alloc (.cells #[.int .i64 y1, .int .i64 y2, .int .i64 y3, .int .i64 y4, .int .i64 y5] 58) := ⟨_, rfl⟩
   have b3 : Below w2.heap.size w2 W3 := by rw [hW3]; exact (Below.refl _ _).alloc (Nat.le_refl _) _
   have k3 := Lh (k2.out.trans (b3.mono k2.out.size))
   have q3 := Lh ((b3.block _ (blkX q2)).trans q2)
   clear b3 q2
   go_wp2_with (fail)
   rw [← hW3]
   replace hW3 := Lh hW3
   refine (hn _).mono ?_
   rintro e w4 ⟨rfl, b4⟩
   have k4 := Lh (k3.out.trans (b4.mono k3.out.size))
   have q4 := (b4.block _ (blkX q3.out)).trans q3.out
   clear b4
   replace q4 := Lh q4
   go_wp2_with (fail)
   go_ret
   exact ⟨rfl, StTo.same h.out k4.out⟩
  | true =>
   simp only [hn1] at hn hee
   replace hn1 := Lh hn1
   cases hc : ckC (x1, x2, x3, x4, x5) with
   | false =>
    simp only [hc, if_true, Bool.false_eq_true, if_false] at hkE hee
    simp only [hh, if_true, Bool.false_eq_true, if_false] at hEE hee
    subst hEE
    subst hkE
    have he0 : ee = 2 := by simpa using hee
    subst he0
    have hl0 : ll = l := by simpa using hll
    rw [hl0]
    clear hl0 hll hee
    replace hh := Lh hh
    replace hc := Lh hc
    go_enter Tryz.func39, Tryz.ntmps39
    go_wp2_with (fail)
    rw [← hW1]
    replace hW1 := Lh hW1
    refine hf.mono ?_
    rintro e w2 ⟨rfl, b2⟩
    have k2 := Lh (k1.out.trans (b2.mono k1.out.size))
    have q2 := (b2.block _ (blkX q1.out)).trans q1.out
    clear b2 hf
    obtain ⟨W3, hW3⟩ : ∃ W3, W3 = w2.alloc (.cells #[.int .i64 y1, .int .i64 y2, .int .i64 y3, .int .i64 y4, .int .i64 y5] 58) := ⟨_, rfl⟩
    have b3 : Below w2.heap.size w2 W3 := by rw [hW3]; exact (Below.refl _ _).alloc (Nat.le_refl _) _
    have k3 := Lh (k2.out.trans (b3.mono k2.out.size))
    have q3 := Lh ((b3.block _ (blkX q2)).trans q2)
    clear b3 q2
    go_wp2_with (fail)
    rw [← hW3]
    replace hW3 := Lh hW3
    refine (hn _).mono ?_
    rintro e w4 ⟨rfl, b4⟩
    have k4 := Lh (k3.out.trans (b4.mono k3.out.size))
    have q4 := (b4.block _ (blkX q3.out)).trans q3.out
    clear b4
    have s0 := blkC q4 0; have s1 := blkC q4 1; have s2 := blkC q4 2; have s3 := blkC q4 3; have s4 := blkC q4 4; have sx := blkX q4
    simp only [List.getElem?_toArray, List.getElem?_cons_zero, List.getElem?_cons_succ] at s0 s1 s2 s3 s4
    replace q4 := Lh q4
    go_wp2_with (fail)
    refine (hk _).mono ?_
    rintro e w5 ⟨rfl, b5⟩
    have k5 := Lh (k4.out.trans (b5.mono k4.out.size))
    have q5 := Lh ((b5.block _ (blkX q4.out)).trans q4.out)
    clear b5 s0 s1 s2 s3 s4 sx
    go_wp2_with (fail)
    go_ret
    exact ⟨rfl, StTo.same h.out k5.out⟩
   | true =>
    simp only [hc, if_true, Bool.false_eq_true, if_false] at hkE hee
    simp only [hh, if_true, Bool.false_eq_true, if_false] at hEE hee
    subst hEE
    subst hkE
    have he0 : ee = 6 := by simpa using hee
    subst he0
    have hl0 : ll = l := by simpa using hll
    rw [hl0]
    clear hl0 hll hee
    replace hh := Lh hh
    replace hc := Lh hc
    go_enter Tryz.func39, Tryz.ntmps39
    go_wp2_with (fail)
    rw [← hW1]
    replace hW1 := Lh hW1
    refine hf.mono ?_
    rintro e w2 ⟨rfl, b2⟩
    have k2 := Lh (k1.out.trans (b2.mono k1.out.size))
    have q2 := (b2.block _ (blkX q1.out)).trans q1.out
    clear b2 hf
    obtain ⟨W3, hW3⟩ : ∃ W3, W3 = w2.alloc (.cells #[.int .i64 y1, .int .i64 y2, .int .i64 y3, .int .i64 y4, .int .i64 y5] 58) := ⟨_, rfl⟩
    have b3 : Below w2.heap.size w2 W3 := by rw [hW3]; exact (Below.refl _ _).alloc (Nat.le_refl _) _
    have k3 := Lh (k2.out.trans (b3.mono k2.out.size))
    have q3 := Lh ((b3.block _ (blkX q2)).trans q2)
    clear b3 q2
    go_wp2_with (fail)
    rw [← hW3]
    replace hW3 := Lh hW3
    refine (hn _).mono ?_
    rintro e w4 ⟨rfl, b4⟩
    have k4 := Lh (k3.out.trans (b4.mono k3.out.size))
    have q4 := (b4.block _ (blkX q3.out)).trans q3.out
    clear b4
    have s0 := blkC q4 0; have s1 := blkC q4 1; have s2 := blkC q4 2; have s3 := blkC q4 3; have s4 := blkC q4 4; have sx := blkX q4
    simp only [List.getElem?_toArray, List.getElem?_cons_zero, List.getElem?_cons_succ] at s0 s1 s2 s3 s4
    replace q4 := Lh q4
    go_wp2_with (fail)
    refine (hk _).mono ?_
    rintro e w5 ⟨rfl, b5⟩
    have k5 := Lh (k4.out.trans (b5.mono k4.out.size))
    have q5 := Lh ((b5.block _ (blkX q4.out)).trans q4.out)
    clear b5 s0 s1 s2 s3 s4 sx
    go_wp2_with (fail)
    go_ret
    exact ⟨rfl, StTo.same h.out k5.out⟩
 | false =>
  cases hn1 : nameB s with
  | false =>
   simp only [hn1] at hn hee
   replace hn1 := Lh hn1
   simp only [hh, if_true, Bool.false_eq_true, if_false] at hEE hee
   subst hEE
   have he0 : ee = 14 := by simpa using hee
   subst he0
   have hl0 : ll = l := by simpa using hll
   rw [hl0]
   clear hl0 hll hee
   replace hh := Lh hh
   go_enter Tryz.func39, Tryz.ntmps39
   go_wp2_with (fail)
   rw [← hW1]
   replace hW1 := Lh hW1
   refine hf.mono ?_
   rintro e w2 ⟨rfl, b2⟩
   have k2 := Lh (k1.out.trans (b2.mono k1.out.size))
   have q2 := (b2.block _ (blkX q1.out)).trans q1.out
   clear b2 hf
   obtain ⟨W3, hW3⟩ : ∃ W3, W3 = w2.alloc (.cells #[.int .i64 y1, .int .i64 y2, .int .i64 y3, .int .i64 y4, .int .i64 y5] 58) := ⟨_, rfl⟩
   have b3 : Below w2.heap.size w2 W3 := by rw [hW3]; exact (Below.refl _ _).alloc (Nat.le_refl _) _
   have k3 := Lh (k2.out.trans (b3.mono k2.out.size))
   have q3 := Lh ((b3.block _ (blkX q2)).trans q2)
   clear b3 q2
   go_wp2_with (fail)
   rw [← hW3]
   replace hW3 := Lh hW3
   refine (hn _).mono ?_
   rintro e w4 ⟨rfl, b4⟩
   have k4 := Lh (k3.out.trans (b4.mono k3.out.size))
   have q4 := (b4.block _ (blkX q3.out)).trans q3.out
   clear b4
   replace q4 := Lh q4
   go_wp2_with (fail)
   go_ret
   exact ⟨rfl, StTo.same h.out k4.out⟩
  | true =>
   simp only [hn1] at hn hee
   replace hn1 := Lh hn1
   cases hc : ckC (x1, x2, x3, x4, x5) with
   | false =>
    simp only [hc, if_true, Bool.false_eq_true, if_false] at hkE hee
    simp only [hh, if_true, Bool.false_eq_true, if_false] at hEE hee
    subst hEE
    subst hkE
    have he0 : ee = 2 := by simpa using hee
    subst he0
    have hl0 : ll = l := by simpa using hll
    rw [hl0]
    clear hl0 hll hee
    replace hh := Lh hh
    replace hc := Lh hc
    go_enter Tryz.func39, Tryz.ntmps39
    go_wp2_with (fail)
    rw [← hW1]
    replace hW1 := Lh hW1
    refine hf.mono ?_
    rintro e w2 ⟨rfl, b2⟩
    have k2 := Lh (k1.out.trans (b2.mono k1.out.size))
    have q2 := (b2.block _ (blkX q1.out)).trans q1.out
    clear b2 hf
    obtain ⟨W3, hW3⟩ : ∃ W3, W3 = w2.alloc (.cells #[.int .i64 y1, .int .i64 y2, .int .i64 y3, .int .i64 y4, .int .i64 y5] 58) := ⟨_, rfl⟩
    have b3 : Below w2.heap.size w2 W3 := by rw [hW3]; exact (Below.refl _ _).alloc (Nat.le_refl _) _
    have k3 := Lh (k2.out.trans (b3.mono k2.out.size))
    have q3 := Lh ((b3.block _ (blkX q2)).trans q2)
    clear b3 q2
    go_wp2_with (fail)
    rw [← hW3]
    replace hW3 := Lh hW3
    refine (hn _).mono ?_
    rintro e w4 ⟨rfl, b4⟩
    have k4 := Lh (k3.out.trans (b4.mono k3.out.size))
    have q4 := (b4.block _ (blkX q3.out)).trans q3.out
    clear b4
    have s0 := blkC q4 0; have s1 := blkC q4 1; have s2 := blkC q4 2; have s3 := blkC q4 3; have s4 := blkC q4 4; have sx := blkX q4
    simp only [List.getElem?_toArray, List.getElem?_cons_zero, List.getElem?_cons_succ] at s0 s1 s2 s3 s4
    replace q4 := Lh q4
    go_wp2_with (fail)
    refine (hk _).mono ?_
    rintro e w5 ⟨rfl, b5⟩
    have k5 := Lh (k4.out.trans (b5.mono k4.out.size))
    have q5 := Lh ((b5.block _ (blkX q4.out)).trans q4.out)
    clear b5 s0 s1 s2 s3 s4 sx
    go_wp2_with (fail)
    go_ret
    exact ⟨rfl, StTo.same h.out k5.out⟩
   | true =>
    simp only [hc, if_true, Bool.false_eq_true, if_false] at hkE hee
    by_cases hfl : 64 ≤ l.length
    ·
     skip
     simp only [hh, if_true, Bool.false_eq_true, if_false] at hEE hee
     subst hEE
     subst hkE
     have he0 : ee = 4 := hee.trans (if_pos hfl)
     subst he0
     have hl0 : ll = l := by simpa using hll
     rw [hl0]
     clear hl0 hll hee
     replace hh := Lh hh
     replace hc := Lh hc
     go_enter Tryz.func39, Tryz.ntmps39
     go_wp2_with (fail)
     rw [← hW1]
     replace hW1 := Lh hW1
     refine hf.mono ?_
     rintro e w2 ⟨rfl, b2⟩
     have k2 := Lh (k1.out.trans (b2.mono k1.out.size))
     have q2 := (b2.block _ (blkX q1.out)).trans q1.out
     clear b2 hf
     obtain ⟨W3, hW3⟩ : ∃ W3, W3 = w2.alloc (.cells #[.int .i64 y1, .int .i64 y2, .int .i64 y3, .int .i64 y4, .int .i64 y5] 58) := ⟨_, rfl⟩
     have b3 : Below w2.heap.size w2 W3 := by rw [hW3]; exact (Below.refl _ _).alloc (Nat.le_refl _) _
     have k3 := Lh (k2.out.trans (b3.mono k2.out.size))
     have q3 := Lh ((b3.block _ (blkX q2)).trans q2)
     clear b3 q2
     go_wp2_with (fail)
     rw [← hW3]
     replace hW3 := Lh hW3
     refine (hn _).mono ?_
     rintro e w4 ⟨rfl, b4⟩
     have k4 := Lh (k3.out.trans (b4.mono k3.out.size))
     have q4 := (b4.block _ (blkX q3.out)).trans q3.out
     clear b4
     have s0 := blkC q4 0; have s1 := blkC q4 1; have s2 := blkC q4 2; have s3 := blkC q4 3; have s4 := blkC q4 4; have sx := blkX q4
     simp only [List.getElem?_toArray, List.getElem?_cons_zero, List.getElem?_cons_succ] at s0 s1 s2 s3 s4
     replace q4 := Lh q4
     go_wp2_with (fail)
     refine (hk _).mono ?_
     rintro e w5 ⟨rfl, b5⟩
     have k5 := Lh (k4.out.trans (b5.mono k4.out.size))
     have q5 := Lh ((b5.block _ (blkX q4.out)).trans q4.out)
     clear b5 s0 s1 s2 s3 s4 sx
     have h5 := h.out.below k5.out
     have c0 := blkC h5.blk 0
     simp only [List.getElem?_toArray, List.getElem?_cons_zero] at c0
     have hml := fun ty => MapOf.len h5.map undC ty
     have hlt5 := h5.lt
     have hfi : (64 : Int) ≤ (l.length : Int) := by omega
     replace h5 := Lh h5
     go_wp2_with (fail)
     go_ret
     exact ⟨rfl, StTo.same h.out k5.out⟩
    ·
     skip
     simp only [hh, if_true, Bool.false_eq_true, if_false] at hEE hee
     subst hEE
     subst hkE
     have he0 : ee = 0 := hee.trans (if_neg hfl)
     subst he0
     have hl0 : ll = putA lessB l s (x1, x2, x3, x4, x5) := by simpa using hll
     rw [hl0]
     clear hl0 hll hee
     replace hh := Lh hh
     replace hc := Lh hc
     go_enter Tryz.func39, Tryz.ntmps39
     go_wp2_with (fail)
     rw [← hW1]
     replace hW1 := Lh hW1
     refine hf.mono ?_
     rintro e w2 ⟨rfl, b2⟩
     have k2 := Lh (k1.out.trans (b2.mono k1.out.size))
     have q2 := (b2.block _ (blkX q1.out)).trans q1.out
     clear b2 hf
     obtain ⟨W3, hW3⟩ : ∃ W3, W3 = w2.alloc (.cells #[.int .i64 y1, .int .i64 y2, .int .i64 y3, .int .i64 y4, .int .i64 y5] 58) := ⟨_, rfl⟩
     have b3 : Below w2.heap.size w2 W3 := by rw [hW3]; exact (Below.refl _ _).alloc (Nat.le_refl _) _
     have k3 := Lh (k2.out.trans (b3.mono k2.out.size))
     have q3 := Lh ((b3.block _ (blkX q2)).trans q2)
     clear b3 q2
     go_wp2_with (fail)
     rw [← hW3]
     replace hW3 := Lh hW3
     refine (hn _).mono ?_
     rintro e w4 ⟨rfl, b4⟩
     have k4 := Lh (k3.out.trans (b4.mono k3.out.size))
     have q4 := (b4.block _ (blkX q3.out)).trans q3.out
     clear b4
     have s0 := blkC q4 0; have s1 := blkC q4 1; have s2 := blkC q4 2; have s3 := blkC q4 3; have s4 := blkC q4 4; have sx := blkX q4
     simp only [List.getElem?_toArray, List.getElem?_cons_zero, List.getElem?_cons_succ] at s0 s1 s2 s3 s4
     replace q4 := Lh q4
     go_wp2_with (fail)
     refine (hk _).mono ?_
     rintro e w5 ⟨rfl, b5⟩
     have k5 := Lh (k4.out.trans (b5.mono k4.out.size))
     have q5 := Lh ((b5.block _ (blkX q4.out)).trans q4.out)
     clear b5 s0 s1 s2 s3 s4 sx
     have h5 := h.out.below k5.out
     have c0 := blkC h5.blk 0
     simp only [List.getElem?_toArray, List.getElem?_cons_zero] at c0
     have hml := fun ty => MapOf.len h5.map undC ty
     have hlt5 := h5.lt
     have hfi : ¬ (64 : Int) ≤ (l.length : Int) := by omega
     replace h5 := Lh h5
     go_wp2_with (fail)
     obtain ⟨W6, hW6⟩ : ∃ W, W = w5.drew := ⟨_, rfl⟩
     have b6 : Below w5.heap.size w5 W6 := by rw [hW6]; exact (Below.refl _ _).drew
     have k6 := Lh (k5.out.trans (b6.mono k5.out.size))
     have q6 := Lh ((b6.block _ (blkX q5.out)).trans q5.out)
     have h6 := h.out.below k6.out
     obtain ⟨W7, hrun, hto⟩ := h6.put s (x1, x2, x3, x4, x5) hn1.out hc.out (.inr (by omega))
     simp only [cnV] at hrun
     replace hW6 := Lh hW6; replace b6 := Lh b6; replace h6 := Lh h6; replace hto := Lh hto
     clear c0 hml
     refine wp_region_held_drew (S := (fun W' : World => W'.cell? ⟨St, 0, none⟩ = some (.map (some M)) ∧ W'.cell? ⟨w.heap.size, 0, none⟩ = some (.int .i64 x1) ∧ W'.cell? ⟨w.heap.size, 1, none⟩ = some (.int .i64 x2) ∧ W'.cell? ⟨w.heap.size, 2, none⟩ = some (.int .i64 x3) ∧ W'.cell? ⟨w.heap.size, 3, none⟩ = some (.int .i64 x4) ∧ W'.cell? ⟨w.heap.size, 4, none⟩ = some (.int .i64 x5))) (by kernel_rfl) ?_ (fun hH => ?_)
     ·
      rw [← hW6.out]
      exact ⟨blkC h6.out.blk 0, blkC q6.out 0, blkC q6.out 1, blkC q6.out 2, blkC q6.out 3, blkC q6.out 4⟩
     refine wpAnyH_take (i := 0) (v := ?_) rfl (by kernel_rfl) (by kernel_rfl) (by kernel_rfl) (fun _ _ _ h => h) (Or.inl ⟨by rfl, by intro w hSw; go_simp; first | done | with_reducible rfl⟩) hH ?_
     simp only [List.getElem_toArray, List.getElem_cons_succ, List.getElem_cons_zero, Act.put, List.setIfInBounds_toArray, List.set_cons_zero, List.set_cons_succ]
     refine wpAnyH_take (i := 1) (v := ?_) rfl (by kernel_rfl) (by kernel_rfl) (by kernel_rfl) (fun _ _ _ h => h) (Or.inl ⟨by rfl, by intro w hSw; go_simp; first | done | with_reducible rfl⟩) hH ?_
     simp only [List.getElem_toArray, List.getElem_cons_succ, List.getElem_cons_zero, Act.put, List.setIfInBounds_toArray, List.set_cons_zero, List.set_cons_succ]
     refine wpAnyH_take (i := 2) (v := ?_) rfl (by kernel_rfl) (by kernel_rfl) (by kernel_rfl) (fun _ _ _ h => h) (Or.inl ⟨by rfl, by intro w hSw; go_simp; first | done | with_reducible rfl⟩) hH ?_
     simp only [List.getElem_toArray, List.getElem_cons_succ, List.getElem_cons_zero, Act.put, List.setIfInBounds_toArray, List.set_cons_zero, List.set_cons_succ]
     refine wpAnyH_take (i := 3) (v := ?_) rfl (by kernel_rfl) (by kernel_rfl) (by kernel_rfl) (fun _ _ _ h => h) (Or.inl ⟨by rfl, by intro w hSw; obtain ⟨s0, s1, s2, s3, s4, s5⟩ := hSw; go_simp; first | done | with_reducible rfl⟩) hH ?_
     simp only [List.getElem_toArray, List.getElem_cons_succ, List.getElem_cons_zero, Act.put, List.setIfInBounds_toArray, List.set_cons_zero, List.set_cons_succ]
     refine wpAnyH_take (i := 4) (v := ?_) rfl (by kernel_rfl) (by kernel_rfl) (by kernel_rfl) (fun _ _ _ h => h) (Or.inl ⟨by rfl, by intro w hSw; go_simp; first | done | with_reducible rfl⟩) hH ?_
     simp only [List.getElem_toArray, List.getElem_cons_succ, List.getElem_cons_zero, Act.put, List.setIfInBounds_toArray, List.set_cons_zero, List.set_cons_succ]
     refine wpAnyH_take (i := 5) (v := ?_) rfl (by kernel_rfl) (by kernel_rfl) (by kernel_rfl) (fun _ _ _ h => h) (Or.inl ⟨by rfl, by intro w hSw; obtain ⟨s0, s1, s2, s3, s4, s5⟩ := hSw; go_simp; first | done | with_reducible rfl⟩) hH ?_
     simp only [List.getElem_toArray, List.getElem_cons_succ, List.getElem_cons_zero, Act.put, List.setIfInBounds_toArray, List.set_cons_zero, List.set_cons_succ]
     refine wpAnyH_ready (rs := [6]) (by kernel_rfl) (by simp) ?_
     refine AllReadyH.cons rfl (fun K hK => ?_) ?_
     ·
      clear hH
      rw [← hW6.out]
      go_simp
      have q7 := (hto.out.chg.block _ (blkX q6.out) (by have := h.out.mlt; omega)).trans q6.out
      refine hK.out _ _ ⟨blkC hto.out.st.blk 0, blkC q7 0, blkC q7 1, blkC q7 2, blkC q7 3, blkC q7 4⟩ (fun hH => ?_)
      clear hK K
      refine wpAnyH_done (by kernel_rfl) ?_ _
      clear hH hrun
      go_wp2_with (fail)
      go_ret
      exact ⟨rfl, hto.out.pre k6.out⟩
     exact AllReadyH.nil
end Go.Proofs.YtgnjnpddehdmcaaGreatDoor
