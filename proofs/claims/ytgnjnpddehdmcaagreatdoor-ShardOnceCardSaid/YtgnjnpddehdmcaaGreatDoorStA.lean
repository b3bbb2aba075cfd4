/- The store: Apply. -/
import Derived.Test.YtgnjnpddehdmcaaGreatDoorStP
import Derived.Test.YtgnjnpddehdmcaaGreatDoorCApply
namespace Go.Proofs.YtgnjnpddehdmcaaGreatDoor
open Go.RowKit Go.Shelf
set_option linter.unusedSimpArgs false
set_option linter.unusedVariables false
set_option linter.unusedSectionVars false
set_option maxRecDepth 10000
def apC (c : Cn) (ph d : Int) : Co.CR := Co.applyR ph c.1 c.2.1 c.2.2.1 c.2.2.2.1 c.2.2.2.2 d
def crC (r : Co.CR) : Cn := (r.v, r.up, r.dn, r.lo, r.hi)
theorem apC_ok {c : Cn} {ph d : Int} (h : (apC c ph d).e = 0) : ckC (crC (apC c ph d)) = true := by
 obtain ⟨v, up, dn, lo, hi⟩ := c
 unfold apC at *
 simp only at *
 have hck : ∀ x, Co.inNum x = true ↔ -1152921504606846976 ≤ x ∧ x ≤ 1152921504606846976 := Co.inNum_iff
 unfold ckC crC
 simp only
 unfold Co.applyR at *
 split at h
 ·
  rename_i p1
  rw [if_pos p1]
  unfold Co.doR at *
  split at h
  ·
   rename_i q
   rw [if_pos q]
   have q1 := (Co.ckOK_iff _ _ _ _ _).1 q.1
   have q2 := (hck _).1 q.2
   split at h
   ·
    rename_i q3
    rw [if_pos q3]
    split at h
    ·
     cases h
    ·
     rename_i q4
     rw [if_neg q4]
     unfold Co.CR.ok; rw [Co.ckOK_iff]; simp only; omega
   ·
    rename_i q3
    rw [if_neg q3]
    split at h
    ·
     cases h
    ·
     rename_i q4
     rw [if_neg q4]
     unfold Co.CR.ok; rw [Co.ckOK_iff]; simp only; omega
  ·
   cases h
 ·
  rename_i p1
  rw [if_neg p1]
  split at h
  ·
   rename_i p2
   rw [if_pos p2]
   unfold Co.undoR at *
   split at h
   ·
    rename_i q
    rw [if_pos q]
    have q1 := (Co.ckOK_iff _ _ _ _ _).1 q.1
    have q2 := (hck _).1 q.2
    split at h
    ·
     rename_i q3
     rw [if_pos q3]
     split at h
     ·
      cases h
     ·
      rename_i q4
      rw [if_neg q4]
      unfold Co.CR.ok; rw [Co.ckOK_iff]; simp only; omega
    ·
     rename_i q3
     rw [if_neg q3]
     split at h
     ·
      cases h
     ·
      rename_i q4
      rw [if_neg q4]
      unfold Co.CR.ok; rw [Co.ckOK_iff]; simp only; omega
   ·
    cases h
  ·
   rename_i p2
   rw [if_neg p2]
   split at h
   ·
    rename_i p3
    rw [if_pos p3]
    unfold Co.freeR at *
    split at h
    ·
     rename_i q
     rw [if_pos q]
     have q1 := (Co.ckOK_iff _ _ _ _ _).1 q.1
     have q2 := (hck _).1 q.2
     split at h
     ·
      rename_i q3
      rw [if_pos q3]
      split at h
      ·
       cases h
      ·
       rename_i q4
       rw [if_neg q4]
       unfold Co.CR.ok; rw [Co.ckOK_iff]; simp only; omega
     ·
      rename_i q3
      rw [if_neg q3]
      split at h
      ·
       cases h
      ·
       rename_i q4
       rw [if_neg q4]
       unfold Co.CR.ok; rw [Co.ckOK_iff]; simp only; omega
    ·
     cases h
   ·
    cases h
def stApE (l : Ct) (s : ByteArray) (ph d : Int) : Int := if hasA l s then (apC (stV l s) ph d).e else 5
def stApN (l : Ct) (s : ByteArray) (ph d : Int) : Int := if stApE l s ph d = 0 then (apC (stV l s) ph d).v else 0
def stApL (l : Ct) (s : ByteArray) (ph d : Int) : Ct := if stApE l s ph d = 0 then putA lessB l s (crC (apC (stV l s) ph d)) else l
theorem StW.name {base St M : Nat} {l : Ct} {W : World} (h : StW base St M l W) {s : ByteArray} (hh : hasA l s = true) : nameB s = true := by
 obtain ⟨x, hx, rfl⟩ := hasA_iff.1 hh
 exact (h.ok x hx).1
set_option maxHeartbeats 16000000 in
theorem stApply_any {base St M : Nat} {l : Ct} {w : World} (h : StW base St M l w) (s : ByteArray) (hs : s.size ≤ 140737488355328) (ph d : Int) (hd1 : -9223372036854775808 ≤ d) (hd2 : d ≤ 9223372036854775807) : Calls Tryz.prog 233 #[.pointer (some ⟨St, 0, none⟩), .string s, .int .i64 ph, .int .i64 d] w fun e w' => e = .returned (.tuple #[.int .i64 (stApN l s ph d), .int .i64 (stApE l s ph d)]) ∧ StTo base St M (stApL l s ph d) w w' := by
 have hf := find_any' h s (by unfold maxLen; omega)
 obtain ⟨ee, hee⟩ : ∃ z, z = stApE l s ph d := ⟨_, rfl⟩
 obtain ⟨nn, hnn⟩ : ∃ z, z = stApN l s ph d := ⟨_, rfl⟩
 obtain ⟨ll, hll⟩ : ∃ z, z = stApL l s ph d := ⟨_, rfl⟩
 rw [← hee, ← hnn, ← hll]
 unfold stApN at hnn; unfold stApL at hll; rw [← hee] at hnn hll; unfold stApE at hee
 have hap := fun W => Co.apply_any ph (stV l s).1 (stV l s).2.1 (stV l s).2.2.1 (stV l s).2.2.2.1 (stV l s).2.2.2.2 d hd1 hd2 W
 rw [show Co.applyR ph (stV l s).1 (stV l s).2.1 (stV l s).2.2.1 (stV l s).2.2.2.1 (stV l s).2.2.2.2 d = apC (stV l s) ph d from rfl] at hap
 have hok := @apC_ok (stV l s) ph d
 have hEE : stE l s = if hasA l s then 0 else 5 := rfl
 generalize apC (stV l s) ph d = r at *
 simp only [cnV] at hf
 generalize stV l s = cc at *
 obtain ⟨y1, y2, y3, y4, y5⟩ := cc
 simp only at hf hap
 generalize stE l s = fe at *
 obtain ⟨rv, ru, rd, rl, rh, re⟩ := r
 simp only [Co.CR.val] at hap
 simp only at hee hnn hok
 replace h := Lh h
 replace hok := Lh hok
 cases hh : hasA l s with
 | false =>
  simp only [hh, Bool.false_eq_true, if_false] at hEE hee
  subst hEE; subst hee
  have hn0 : nn = 0 := by simpa using hnn
  subst hn0
  have hl0 : ll = l := by simpa using hll
  rw [hl0]
  clear hl0 hll hnn hap
  go_enter Tryz.func233, Tryz.ntmps233
  go_wp2_with (fail)
  refine hf.mono ?_
  rintro e w2 ⟨rfl, b2⟩
  have k2 := Lh b2
  clear b2 hf
  have b3 : Below w2.heap.size w2 (w2.alloc (.cells #[.int .i64 y1, .int .i64 y2, .int .i64 y3, .int .i64 y4, .int .i64 y5] 58)) := (Below.refl _ _).alloc (Nat.le_refl _) _
  have k3 := Lh (k2.out.trans (b3.mono k2.out.size))
  clear b3
  go_wp2_with (fail)
  refine bodyPost_ret (results_tmp2 rfl _ _ _) rfl ?_
  exact ⟨rfl, StTo.same h.out k3.out⟩
 | true =>
  simp only [hh, if_true] at hEE hee
  subst hEE
  have hnm := h.out.name hh
  replace hh := Lh hh; replace hnm := Lh hnm
  by_cases hr : re = 0
  ·
   subst hr
   subst hee
   have hn0 : nn = rv := by simpa using hnn
   subst hn0
   have hl0 : ll = putA lessB l s (crC ⟨nn, ru, rd, rl, rh, 0⟩) := by simpa using hll
   rw [hl0]
   clear hl0 hll hnn
   go_enter Tryz.func233, Tryz.ntmps233
   go_wp2_with (fail)
   refine hf.mono ?_
   rintro e w2 ⟨rfl, b2⟩
   have k2 := Lh b2
   clear b2 hf
   obtain ⟨W3, hW3⟩ : ∃ W3, W3 = w2.alloc (.cells #[.int .i64 y1, .int .i64 y2, .int .i64 y3, .int .i64 y4, .int .i64 y5] 58) := ⟨_, rfl⟩
   have b3 : Below w2.heap.size w2 W3 := by rw [hW3]; exact (Below.refl _ _).alloc (Nat.le_refl _) _
   have k3 := Lh (k2.out.trans (b3.mono k2.out.size))
   have q3 := Lh (show W3.heap[w2.heap.size]? = some (.cells #[.int .i64 y1, .int .i64 y2, .int .i64 y3, .int .i64 y4, .int .i64 y5] 58 (0, 0)) from by rw [hW3]; exact hpNew _ _)
   go_wp2_with (fail)
   rw [← hW3]
   replace hW3 := Lh hW3
   refine (hap _).mono ?_
   rintro e w4 ⟨rfl, b4⟩
   have k4 := Lh (k3.out.trans (b4.mono k3.out.size))
   have q4 := (b4.block _ (blkX q3.out)).trans q3.out
   clear b4 b3 hap
   have s0 := blkC q4 0; have s1 := blkC q4 1; have s2 := blkC q4 2; have s3 := blkC q4 3; have s4 := blkC q4 4; have sf := blkF q4; have sx := blkX q4
   simp only [List.getElem?_toArray, List.getElem?_cons_zero, List.getElem?_cons_succ] at s0 s1 s2 s3 s4
   obtain ⟨W5, hW5⟩ : ∃ W5, W5 = ((((w4.setCell ⟨w2.heap.size, 0, none⟩ (.int .i64 nn)).setCell ⟨w2.heap.size, 1, none⟩ (.int .i64 ru)).setCell ⟨w2.heap.size, 2, none⟩ (.int .i64 rd)).setCell ⟨w2.heap.size, 3, none⟩ (.int .i64 rl)).setCell ⟨w2.heap.size, 4, none⟩ (.int .i64 rh) := ⟨_, rfl⟩
   have q5 := hpSet (i := 4) (v := .int .i64 rh) (hpSet (i := 3) (v := .int .i64 rl) (hpSet (i := 2) (v := .int .i64 rd) (hpSet (i := 1) (v := .int .i64 ru) (hpSet (i := 0) (v := .int .i64 nn) q4))))
   simp only [List.setIfInBounds_toArray, List.set_cons_succ, List.set_cons_zero] at q5
   rw [← hW5] at q5
   have k5 : Below w.heap.size w W5 := by
    rw [hW5]
    have hle := k2.out.size
    exact ((((k4.out.setCell (p := ⟨w2.heap.size, 0, none⟩) (by simp only; omega) _).setCell (p := ⟨w2.heap.size, 1, none⟩) (by simp only; omega) _).setCell (p := ⟨w2.heap.size, 2, none⟩) (by simp only; omega) _).setCell (p := ⟨w2.heap.size, 3, none⟩) (by simp only; omega) _).setCell (p := ⟨w2.heap.size, 4, none⟩) (by simp only; omega) _
   replace q4 := Lh q4; replace k5 := Lh k5; replace q5 := Lh q5
   go_wp2_with (fail)
   try rw [← hW5]
   clear s0 s1 s2 s3 s4 sf sx
   obtain ⟨W6, hW6⟩ : ∃ W, W = W5.drew := ⟨_, rfl⟩
   have b6 : Below W5.heap.size W5 W6 := by rw [hW6]; exact (Below.refl _ _).drew
   have k6 := Lh (k5.out.trans (b6.mono k5.out.size))
   have q6 := Lh ((b6.block _ (blkX q5.out)).trans q5.out)
   have h6 := h.out.below k6.out
   obtain ⟨W7, hrun, hto⟩ := h6.put s (crC ⟨nn, ru, rd, rl, rh, 0⟩) hnm.out (hok.out (by first | trivial | rfl)) (.inl hh.out)
   simp only [cnV, crC] at hrun
   replace hW6 := Lh hW6; replace b6 := Lh b6; replace h6 := Lh h6; replace hto := Lh hto; replace hW5 := Lh hW5
   refine wp_region_held_drew (S := (fun W' : World => W'.cell? ⟨St, 0, none⟩ = some (.map (some M)) ∧ W'.cell? ⟨w2.heap.size, 0, none⟩ = some (.int .i64 nn) ∧ W'.cell? ⟨w2.heap.size, 1, none⟩ = some (.int .i64 ru) ∧ W'.cell? ⟨w2.heap.size, 2, none⟩ = some (.int .i64 rd) ∧ W'.cell? ⟨w2.heap.size, 3, none⟩ = some (.int .i64 rl) ∧ W'.cell? ⟨w2.heap.size, 4, none⟩ = some (.int .i64 rh))) (by kernel_rfl) ?_ (fun hH => ?_)
   ·
    rw [← hW6.out]
    exact ⟨blkC h6.out.blk 0, blkC q6.out 0, blkC q6.out 1, blkC q6.out 2, blkC q6.out 3, blkC q6.out 4⟩
   refine wpAnyH_take (i := 0) (v := ?_) rfl (by kernel_rfl) (by kernel_rfl) (by kernel_rfl) (fun _ _ _ h => h) (Or.inl ⟨by rfl, by intro w hSw; go_simp; first | done | with_reducible rfl⟩) hH ?_
   simp only [List.getElem_toArray, List.getElem_cons_succ, List.getElem_cons_zero, Act.put, List.setIfInBounds_toArray, List.set_cons_zero, List.set_cons_succ]
   refine wpAnyH_take (i := 1) (v := ?_) rfl (by kernel_rfl) (by kernel_rfl) (by kernel_rfl) (fun _ _ _ h => h) (Or.inl ⟨by rfl, by intro w hSw; go_simp; first | done | with_reducible rfl⟩) hH ?_
   simp only [List.getElem_toArray, List.getElem_cons_succ, List.getElem_cons_zero, Act.put, List.setIfInBounds_toArray, List.set_cons_zero, List.set_cons_succ]
   refine wpAnyH_take (i := 2) (v := ?_) rfl (by kernel_rfl) (by kernel_rfl) (by kernel_rfl) (fun _ _ _ h => h) (Or.inl ⟨by rfl, by intro w hSw; go_simp; first | done | with_reducible rfl⟩) hH ?_
   simp only [List.getElem_toArray, List.getElem_cons_succ, List.getElem_cons_zero, Act.put, List.setIfInBounds_toArray, List.set_cons_zero, List.set_cons_succ]
   refine wpAnyH_take (i := 3) (v := ?_) rfl (by kernel_rfl) (by kernel_rfl) (by kernel_rfl) (fun _ _ _ h => h) (Or.inl ⟨by rfl, by intro w hSw; obtain ⟨s0, s1, s2, s3, s4, s5⟩ := hSw; go_simp; first | done | with_reducible rfl⟩) hH ?_
   simp only [List.getElem_toArray, List.getElem_cons_succ, List.getElem_cons_zero, Act.put, List.setIfInBounds_toArray, List.set_cons_zero, List.set_cons_succ]
   refine wpAnyH_take (i := 4) (v := ?_) rfl (by kernel_rfl) (by kernel_rfl) (by kernel_rfl) (fun _ _ _ h => h) (Or.inl ⟨by rfl, by intro w hSw; go_simp; first | done | with_reducible rfl⟩) hH ?_
   simp only [List.getElem_toArray, List.getElem_cons_succ, List.getElem_cons_zero, Act.put, List.setIfInBounds_toArray, List.set_cons_zero, List.set_cons_succ]
   refine wpAnyH_take (i := 5) (v := ?_) rfl (by kernel_rfl) (by kernel_rfl) (by kernel_rfl) (fun _ _ _ h => h) (Or.inl ⟨by rfl, by intro w hSw; obtain ⟨s0, s1, s2, s3, s4, s5⟩ := hSw; go_simp; first | done | with_reducible rfl⟩) hH ?_
   simp only [List.getElem_toArray, List.getElem_cons_succ, List.getElem_cons_zero, Act.put, List.setIfInBounds_toArray, List.set_cons_zero, List.set_cons_succ]
   refine wpAnyH_ready (rs := [6]) (by kernel_rfl) (by simp) ?_
   refine AllReadyH.cons rfl (fun K hK => ?_) ?_
   ·
    clear hH
    rw [← hW6.out]
    go_simp
    have q7 := (hto.out.chg.block _ (blkX q6.out) (by have := h.out.mlt; have := k2.out.size; omega)).trans q6.out
    replace q7 := Lh q7
    refine hK.out _ _ ⟨blkC hto.out.st.blk 0, blkC q7.out 0, blkC q7.out 1, blkC q7.out 2, blkC q7.out 3, blkC q7.out 4⟩ (fun hH => ?_)
    clear hK K
    refine wpAnyH_done (by kernel_rfl) ?_ _
    clear hH hrun
    have d0 := blkC q7.out 0; have dx := blkX q7.out
    simp only [List.getElem?_toArray, List.getElem?_cons_zero] at d0
    go_wp2_with (fail)
    refine bodyPost_ret (results_tmp2 rfl _ _ _) rfl ?_
    exact ⟨rfl, hto.out.pre k6.out⟩
   exact AllReadyH.nil
  ·
   subst hee
   have hn0 : nn = 0 := by simpa [hr] using hnn
   subst hn0
   have hl0 : ll = l := by simpa [hr] using hll
   rw [hl0]
   clear hl0 hll hnn
   have hr1 : (ee != 0) = true := by simpa using hr
   have hr2 : ¬ ee = 0 := hr
   replace hr := Lh hr
   go_enter Tryz.func233, Tryz.ntmps233
   go_wp2_with (fail)
   refine hf.mono ?_
   rintro e w2 ⟨rfl, b2⟩
   have k2 := Lh b2
   clear b2 hf
   obtain ⟨W3, hW3⟩ : ∃ W3, W3 = w2.alloc (.cells #[.int .i64 y1, .int .i64 y2, .int .i64 y3, .int .i64 y4, .int .i64 y5] 58) := ⟨_, rfl⟩
   have b3 : Below w2.heap.size w2 W3 := by rw [hW3]; exact (Below.refl _ _).alloc (Nat.le_refl _) _
   have k3 := Lh (k2.out.trans (b3.mono k2.out.size))
   have q3 := Lh (show W3.heap[w2.heap.size]? = some (.cells #[.int .i64 y1, .int .i64 y2, .int .i64 y3, .int .i64 y4, .int .i64 y5] 58 (0, 0)) from by rw [hW3]; exact hpNew _ _)
   go_wp2_with (fail)
   rw [← hW3]
   replace hW3 := Lh hW3
   refine (hap _).mono ?_
   rintro e w4 ⟨rfl, b4⟩
   have k4 := Lh (k3.out.trans (b4.mono k3.out.size))
   have q4 := (b4.block _ (blkX q3.out)).trans q3.out
   clear b4 b3 hap
   have s0 := blkC q4 0; have s1 := blkC q4 1; have s2 := blkC q4 2; have s3 := blkC q4 3; have s4 := blkC q4 4; have sf := blkF q4; have sx := blkX q4
   simp only [List.getElem?_toArray, List.getElem?_cons_zero, List.getElem?_cons_succ] at s0 s1 s2 s3 s4
   obtain ⟨W5, hW5⟩ : ∃ W5, W5 = ((((w4.setCell ⟨w2.heap.size, 0, none⟩ (.int .i64 rv)).setCell ⟨w2.heap.size, 1, none⟩ (.int .i64 ru)).setCell ⟨w2.heap.size, 2, none⟩ (.int .i64 rd)).setCell ⟨w2.heap.size, 3, none⟩ (.int .i64 rl)).setCell ⟨w2.heap.size, 4, none⟩ (.int .i64 rh) := ⟨_, rfl⟩
   have q5 := hpSet (i := 4) (v := .int .i64 rh) (hpSet (i := 3) (v := .int .i64 rl) (hpSet (i := 2) (v := .int .i64 rd) (hpSet (i := 1) (v := .int .i64 ru) (hpSet (i := 0) (v := .int .i64 rv) q4))))
   simp only [List.setIfInBounds_toArray, List.set_cons_succ, List.set_cons_zero] at q5
   rw [← hW5] at q5
   have k5 : Below w.heap.size w W5 := by
    rw [hW5]
    have hle := k2.out.size
    exact ((((k4.out.setCell (p := ⟨w2.heap.size, 0, none⟩) (by simp only; omega) _).setCell (p := ⟨w2.heap.size, 1, none⟩) (by simp only; omega) _).setCell (p := ⟨w2.heap.size, 2, none⟩) (by simp only; omega) _).setCell (p := ⟨w2.heap.size, 3, none⟩) (by simp only; omega) _).setCell (p := ⟨w2.heap.size, 4, none⟩) (by simp only; omega) _
   replace q4 := Lh q4; replace k5 := Lh k5; replace q5 := Lh q5
   go_wp2_with (fail)
   refine bodyPost_ret (results_tmp2 rfl _ _ _) rfl ?_
   exact ⟨rfl, StTo.same h.out (by try rw [← hW5]; exact k5.out)⟩
end Go.Proofs.YtgnjnpddehdmcaaGreatDoor
