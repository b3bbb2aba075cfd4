/- The program's change of a counter: one contract; what its callers ask of it, in plain words. -/
import Derived.Test.YtmkggjhlacajaaaChg
namespace Go.Proofs.Ytmkggjhlacajaaa
open Go.RowKit
set_option linter.unusedSimpArgs false
set_option linter.unusedVariables false
theorem change_any (v up dn lo hi d val res wr : Int) (hb : inNum d = true → (-1152921504606846976 ≤ val ∧ val ≤ 1152921504606846976) ∧ (-1152921504606846976 ≤ res ∧ res ≤ 1152921504606846976)) (hz : val = 0 ∨ val ≠ 0) (w : World) :
    Calls Try.prog 34 #[.agg #[.int .i64 v, .int .i64 up, .int .i64 dn, .int .i64 lo, .int .i64 hi], .int .i64 d, .int .i64 val, .int .i64 res, .int .i64 wr] w fun e w' => e = .returned (chR v up dn lo hi d val res wr).val ∧ Below w.heap.size w w' := by
  rcases Bool.eq_false_or_eq_true (ckOK v up dn lo hi) with hok | hok
  · by_cases hd : inNum d = true
    · obtain ⟨⟨v1, v2⟩, r1, r2⟩ := hb hd
      obtain ⟨hd1, hd2⟩ := (inNum_iff d).1 hd
      have hlin := ckOK_lin hok
      rcases Int.lt_or_le d 0 with hs | hs
      · by_cases hv : val = 0
        · subst hv
          by_cases hr : res = 0
          · subst hr; exact change_n00 v up dn lo hi d 0 0 wr hs hok hd1 hd2 w
          · rcases Bool.eq_false_or_eq_true (ckOK v up (dn + res) lo hi) with hq | hq
            · exact change_n0ok v up dn lo hi d 0 res wr hs hok hd1 hd2 (by omega) (by omega) r1 r2 (by omega) hq w
            · exact change_n0bad v up dn lo hi d 0 res wr hs hok hd1 hd2 (by omega) (by omega) r1 r2 (by omega) hq w
        · rcases Bool.eq_false_or_eq_true (ckOK (v + val) up (dn + res) lo hi) with hq | hq
          · exact change_nvok v up dn lo hi d val res wr hs hok hd1 hd2 v1 v2 r1 r2 (by omega) hq w
          · exact change_nvbad v up dn lo hi d val res wr hs hok hd1 hd2 v1 v2 r1 r2 (by omega) hq w
      · by_cases hv : val = 0
        · subst hv
          by_cases hr : res = 0
          · subst hr; exact change_p00 v up dn lo hi d 0 0 wr hs hok hd1 hd2 w
          · rcases Bool.eq_false_or_eq_true (ckOK v (up + res) dn lo hi) with hq | hq
            · exact change_p0ok v up dn lo hi d 0 res wr hs hok hd1 hd2 (by omega) (by omega) r1 r2 (by omega) hq w
            · exact change_p0bad v up dn lo hi d 0 res wr hs hok hd1 hd2 (by omega) (by omega) r1 r2 (by omega) hq w
        · rcases Bool.eq_false_or_eq_true (ckOK (v + val) (up + res) dn lo hi) with hq | hq
          · exact change_pvok v up dn lo hi d val res wr hs hok hd1 hd2 v1 v2 r1 r2 (by omega) hq w
          · exact change_pvbad v up dn lo hi d val res wr hs hok hd1 hd2 v1 v2 r1 r2 (by omega) hq w
    · exact change_bad2 v up dn lo hi d val res wr hok (by rw [inNum_iff] at hd; omega) w
  · exact change_bad1 v up dn lo hi d val res wr hok w

def szR (d : Int) : Int := if d < 0 then wrap64 (-d) else d
theorem wrap64_neg {d : Int} (h1 : -1152921504606846976 ≤ d) (h2 : d ≤ 1152921504606846976) : wrap64 (-d) = -d := by unfold wrap64; omega
theorem chR_do (v up dn lo hi d : Int) : chR v up dn lo hi d d (szR d) 7 = doR v up dn lo hi d := by
  by_cases h : ckOK v up dn lo hi = true ∧ inNum d = true
  · have h12 := h
    obtain ⟨h1, h2⟩ := h
    have hl := ckOK_lin h1
    obtain ⟨h3, h4⟩ := (inNum_iff d).1 h2
    rcases Int.lt_or_le d 0 with hs | hs
    · have hs' : ¬ 0 ≤ d := by omega
      have hz : szR d = -d := by unfold szR; rw [if_pos hs, wrap64_neg h3 h4]
      have hz2 : wrap64 (-d) = -d := wrap64_neg h3 h4
      have hz3 : wrap64 (-szR d) = d := by rw [hz]; unfold wrap64; omega
      rw [hz]
      unfold chR doR
      rw [if_pos h12, if_pos h12, if_pos hs, if_neg hs']
      by_cases hq : ckOK (v + d) up (dn + (-d)) lo hi = true
      · have := ckOK_lin hq
        rewrite [if_pos hq, if_neg (by omega)]; unfold CR.ok; congr 1 <;> omega
      · rw [if_neg hq, if_pos]; rw [ckOK_iff] at hq; omega
    · have hs' : ¬ d < 0 := by omega
      have hz : szR d = d := by unfold szR; rw [if_neg hs']
      have hz2 : wrap64 (-d) = -d := wrap64_neg h3 h4
      have hz3 : wrap64 (-szR d) = -d := by rw [hz]; exact hz2
      rw [hz]
      unfold chR doR
      rw [if_pos h12, if_pos h12, if_neg hs', if_pos hs]
      by_cases hq : ckOK (v + d) (up + d) dn lo hi = true
      · have := ckOK_lin hq
        rewrite [if_pos hq, if_neg (by omega)]; unfold CR.ok; congr 1 <;> omega
      · rw [if_neg hq, if_pos]; rw [ckOK_iff] at hq; omega
  · unfold chR doR; rw [if_neg h, if_neg h]
theorem chR_undo (v up dn lo hi d : Int) : chR v up dn lo hi d (wrap64 (-d)) (wrap64 (-szR d)) 9 = undoR v up dn lo hi d := by
  by_cases h : ckOK v up dn lo hi = true ∧ inNum d = true
  · have h12 := h
    obtain ⟨h1, h2⟩ := h
    have hl := ckOK_lin h1
    obtain ⟨h3, h4⟩ := (inNum_iff d).1 h2
    rcases Int.lt_or_le d 0 with hs | hs
    · have hs' : ¬ 0 ≤ d := by omega
      have hz : szR d = -d := by unfold szR; rw [if_pos hs, wrap64_neg h3 h4]
      have hz2 : wrap64 (-d) = -d := wrap64_neg h3 h4
      have hz3 : wrap64 (-szR d) = d := by rw [hz]; unfold wrap64; omega
      rw [hz3, hz2]
      unfold chR undoR
      rw [if_pos h12, if_pos h12, if_pos hs, if_neg hs']
      by_cases hq : ckOK (v + (-d)) up (dn + d) lo hi = true
      · have := ckOK_lin hq
        rewrite [if_pos hq, if_neg (by omega)]; unfold CR.ok; congr 1 <;> omega
      · rw [if_neg hq, if_pos]; rw [ckOK_iff] at hq; omega
    · have hs' : ¬ d < 0 := by omega
      have hz : szR d = d := by unfold szR; rw [if_neg hs']
      have hz2 : wrap64 (-d) = -d := wrap64_neg h3 h4
      have hz3 : wrap64 (-szR d) = -d := by rw [hz]; exact hz2
      rw [hz3, hz2]
      unfold chR undoR
      rw [if_pos h12, if_pos h12, if_neg hs', if_pos hs]
      by_cases hq : ckOK (v + (-d)) (up + (-d)) dn lo hi = true
      · have := ckOK_lin hq
        rewrite [if_pos hq, if_neg (by omega)]; unfold CR.ok; congr 1 <;> omega
      · rw [if_neg hq, if_pos]; rw [ckOK_iff] at hq; omega
  · unfold chR undoR; rw [if_neg h, if_neg h]
theorem chR_free (v up dn lo hi d : Int) : chR v up dn lo hi d 0 (wrap64 (-szR d)) 9 = freeR v up dn lo hi d := by
  by_cases h : ckOK v up dn lo hi = true ∧ inNum d = true
  · have h12 := h
    obtain ⟨h1, h2⟩ := h
    have hl := ckOK_lin h1
    obtain ⟨h3, h4⟩ := (inNum_iff d).1 h2
    rcases Int.lt_or_le d 0 with hs | hs
    · have hs' : ¬ 0 ≤ d := by omega
      have hz : szR d = -d := by unfold szR; rw [if_pos hs, wrap64_neg h3 h4]
      have hz2 : wrap64 (-d) = -d := wrap64_neg h3 h4
      have hz3 : wrap64 (-szR d) = d := by rw [hz]; unfold wrap64; omega
      rw [hz3]
      unfold chR freeR
      rw [if_pos h12, if_pos h12, if_pos hs, if_neg hs']
      by_cases hq : ckOK (v + 0) up (dn + d) lo hi = true
      · have := ckOK_lin hq
        rewrite [if_pos hq, if_neg (by omega)]; unfold CR.ok; congr 1 <;> omega
      · rw [if_neg hq, if_pos]; rw [ckOK_iff] at hq; omega
    · have hs' : ¬ d < 0 := by omega
      have hz : szR d = d := by unfold szR; rw [if_neg hs']
      have hz2 : wrap64 (-d) = -d := wrap64_neg h3 h4
      have hz3 : wrap64 (-szR d) = -d := by rw [hz]; exact hz2
      rw [hz3]
      unfold chR freeR
      rw [if_pos h12, if_pos h12, if_neg hs', if_pos hs]
      by_cases hq : ckOK (v + 0) (up + (-d)) dn lo hi = true
      · have := ckOK_lin hq
        rewrite [if_pos hq, if_neg (by omega)]; unfold CR.ok; congr 1 <;> omega
      · rw [if_neg hq, if_pos]; rw [ckOK_iff] at hq; omega
  · unfold chR freeR; rw [if_neg h, if_neg h]
theorem szB {d : Int} (h : inNum d = true) : (-1152921504606846976 ≤ d ∧ d ≤ 1152921504606846976) ∧ (-1152921504606846976 ≤ szR d ∧ szR d ≤ 1152921504606846976) := by
  have h1 := (inNum_iff d).1 h
  refine ⟨h1, ?_⟩
  unfold szR; split <;> (try rw [wrap64_neg h1.1 h1.2]) <;> omega
theorem negB {d : Int} (h : -1152921504606846976 ≤ d ∧ d ≤ 1152921504606846976) : -1152921504606846976 ≤ wrap64 (-d) ∧ wrap64 (-d) ≤ 1152921504606846976 := by rw [wrap64_neg h.1 h.2]; omega
theorem size_sz (d : Int) (h1 : -9223372036854775808 ≤ d) (h2 : d ≤ 9223372036854775807) (w : World) :
    Calls Try.prog 35 #[.int .i64 d] w fun e w' => e = .returned (.int .i64 (szR d)) ∧ w = w' := size_any d h1 h2 w
theorem do_ch (v up dn lo hi d : Int) (w : World) : Calls Try.prog 34 #[.agg #[.int .i64 v, .int .i64 up, .int .i64 dn, .int .i64 lo, .int .i64 hi], .int .i64 d, .int .i64 d, .int .i64 (szR d), .int .i64 7] w fun e w' => e = .returned (doR v up dn lo hi d).val ∧ Below w.heap.size w w' :=
  (change_any v up dn lo hi d d (szR d) 7 (fun h => szB h) (by omega) w).mono fun e w' hh => ⟨by rw [← chR_do]; exact hh.1, hh.2⟩
theorem undo_ch (v up dn lo hi d : Int) (w : World) : Calls Try.prog 34 #[.agg #[.int .i64 v, .int .i64 up, .int .i64 dn, .int .i64 lo, .int .i64 hi], .int .i64 d, .int .i64 (wrap64 (-d)), .int .i64 (wrap64 (-szR d)), .int .i64 9] w fun e w' => e = .returned (undoR v up dn lo hi d).val ∧ Below w.heap.size w w' :=
  (change_any v up dn lo hi d (wrap64 (-d)) (wrap64 (-szR d)) 9 (fun h => ⟨negB (szB h).1, negB (szB h).2⟩) (by omega) w).mono fun e w' hh => ⟨by rw [← chR_undo]; exact hh.1, hh.2⟩
theorem free_ch (v up dn lo hi d : Int) (w : World) : Calls Try.prog 34 #[.agg #[.int .i64 v, .int .i64 up, .int .i64 dn, .int .i64 lo, .int .i64 hi], .int .i64 d, .int .i64 0, .int .i64 (wrap64 (-szR d)), .int .i64 9] w fun e w' => e = .returned (freeR v up dn lo hi d).val ∧ Below w.heap.size w w' :=
  (change_any v up dn lo hi d 0 (wrap64 (-szR d)) 9 (fun h => ⟨by omega, negB (szB h).2⟩) (by omega) w).mono fun e w' hh => ⟨by rw [← chR_free]; exact hh.1, hh.2⟩
theorem wrapI (n : Int) : IntKind.i64.wrap n = wrap64 n := by rw [IntKind.wrap_i64]; unfold wrap64; omega
theorem undo_chW (v up dn lo hi d : Int) (w : World) : Calls Try.prog 34 #[.agg #[.int .i64 v, .int .i64 up, .int .i64 dn, .int .i64 lo, .int .i64 hi], .int .i64 d, .int .i64 (IntKind.i64.wrap (-d)), .int .i64 (IntKind.i64.wrap (-szR d)), .int .i64 9] w fun e w' => e = .returned (undoR v up dn lo hi d).val ∧ Below w.heap.size w w' := by
  rw [wrapI, wrapI]; exact undo_ch v up dn lo hi d w
theorem free_chW (v up dn lo hi d : Int) (w : World) : Calls Try.prog 34 #[.agg #[.int .i64 v, .int .i64 up, .int .i64 dn, .int .i64 lo, .int .i64 hi], .int .i64 d, .int .i64 0, .int .i64 (IntKind.i64.wrap (-szR d)), .int .i64 9] w fun e w' => e = .returned (freeR v up dn lo hi d).val ∧ Below w.heap.size w w' := by
  rw [wrapI]; exact free_ch v up dn lo hi d w
end Go.Proofs.Ytmkggjhlacajaaa
