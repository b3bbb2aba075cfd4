/- Legal and Whole: the document's. -/
import Derived.Test.YthmkfbabacehnaaRAll
import Derived.Test.YthmkfbabacehnaaLegal
import Derived.Test.YthmkfbabacehnaaRallow
namespace Go.Proofs.Ythmkfbabacehnaa
open Go.RowKit
set_option linter.unusedSimpArgs false
set_option linter.unusedVariables false
set_option linter.unusedSectionVars false
set_option maxRecDepth 10000
theorem allS_get {N j : Nat} (h : 1 ≤ N ∧ N ≤ 8) : (allS (N : Int)).1[j]? = ((seqs 1 N)[j]?).map (·.2) := by
  have : okN (N : Int) = true := by simp [okN]; omega
  unfold allS
  rw [if_pos this]
  simp
theorem best_more {f : List Ef → Nat} {ss : List (Int × List Ef)} {j : Nat} {m : Int × List Ef} (h : ss[j]? = some m) : best f (ss.take (j + 1)) = max (best f (ss.take j)) (f m.2) := by
  rw [List.take_add_one, h]
  simp [best, List.foldl_append]
set_option maxRecDepth 100000 in
set_option maxHeartbeats 8000000 in
theorem rlegal_any (N : Int) (A : Option Addr) (n c : Nat) (l : List Ef) (w : World) (h1 : ES w A n l) (hn : n ≤ 70368744177664) :
    Calls Try.prog 11 #[.int .i64 N, .slice A n c] w fun e w' => e = .returned (.tuple #[.bool (legalR N l).1, .int .i64 (legalR N l).2.1, .int .i64 (legalR N l).2.2]) ∧ Below w.heap.size w w' := by
  have hl1 := h1.1
  go_enter Try.func11, Try.ntmps11
  have hR := rallowed_any N A n c l w h1 hn
  by_cases hk : okL N l = true
  · have hn8 := (okL_iff N l).1 hk
    replace hn8 := hn8.1
    obtain ⟨k, rfl⟩ : ∃ k : Nat, N = k := ⟨N.toNat, by omega⟩
    have hk8 : 1 ≤ k ∧ k ≤ 8 := by omega
    have hgl := fun j => allS_get (j := j) hk8
    have hcount : (allS (k : Int)).1.length = k + 2 := by rw [allS_ok hk8]; simp [seqAs]
    have hz := Lib.hid (show legalR (k : Int) l = (decide (best (com l) (seqs 1 k) = l.length), ((best (com l) (seqs 1 k) : Nat) : Int), 0) from by simp [legalR, hk])
    have hlen : (seqs 1 k).length = k + 2 := by simp [seqs]
    have hok : (allS (k : Int)).2 = 0 := by rw [allS_ok hk8]
    rw [hk] at hR
    replace hgl := Lib.hid hgl; replace h1 := Lib.hid h1; replace hcount := Lib.hid hcount; replace hlen := Lib.hid hlen; replace hk8 := Lib.hid hk8
    clear hk
    go_wp2_with (fail)
    refine hR.mono ?_
    rintro e w1 ⟨rfl, b1⟩
    clear hR
    go_wp2_with (fail)
    refine (rall_any k w1).mono ?_
    rintro e w2 ⟨B, m, d, xs, rfl, hA⟩
    rw [hok]
    have hm : m = k + 2 := by have := hA.two; have := hcount.out; omega
    subst hm
    have hB : Below w.heap.size w w2 := b1.trans (hA.bel.mono b1.size)
    clear b1
    replace hA := Lib.hid hA; replace hB := Lib.hid hB
    go_wp2_with (fail)
    go_loopw [7, 10] (fun v i wr => ∃ j : Nat, j ≤ k + 2 ∧ i = .int .i64 j ∧ v = .int .i64 (best (com l) ((seqs 1 k).take j) : Nat) ∧ Below w2.heap.size w2 wr) (fun _ i _ => k + 2 - (intOf i).toNat)
    case atStart => exact ⟨0, by omega, rfl, rfl, Below.refl _ _⟩
    case round =>
      obtain ⟨j, hj, rfl, rfl, hb⟩ := hrel
      by_cases hlt : j < k + 2
      · obtain ⟨b, o, A1, n1, c1, ls, rfl, hbl, hcell, hls, hO⟩ := (hA.out.keep hb).at_ hlt
        have hq : (seqs 1 k)[j]? = some ((seqs 1 k)[j]'(by have := hlen.out; omega)) := List.getElem?_eq_getElem _
        have hls2 : ((seqs 1 k)[j]'(by have := hlen.out; omega)).2 = ls := by
          have := hgl.out j
          rw [hls, hq] at this
          simpa using this.symm
        have hbest := best_more (f := com l) hq
        rw [hls2] at hbest
        have hsl := seqs_len (List.mem_of_getElem? hq)
        rw [hls2, hO.len] at hsl
        have E1 : ES wr A n l := SL.keep h1.out (hB.out.trans (hb.mono hB.out.size))
        have hC := common_any A A1 n c n1 c1 l ls wr E1 hO.es hn (by have := hk8.out; omega)
        generalize best (com l) ((seqs 1 k).take j) = z at *
        generalize hz1 : best (com l) ((seqs 1 k).take (j + 1)) = z1 at *
        have hbestI : max (z : Int) ((com l ls : Nat) : Int) = (z1 : Int) := by omega
        have j0 : (0 : Int) ≤ j := by omega
        have j1 : (j : Int) < ((k + 2 : Nat) : Int) := by omega
        replace hO := Lib.hid hO; replace E1 := Lib.hid E1; replace hq := Lib.hid hq; replace hls := Lib.hid hls; replace hls2 := Lib.hid hls2; replace hz1 := Lib.hid hz1; replace hb := Lib.hid hb
        clear hbest hsl
        go_wp2_with (fail)
        refine hC.mono ?_
        rintro e w5 ⟨rfl, b5⟩
        clear hC
        go_wp2_with (fail)
        exact ⟨⟨j + 1, by omega, by go_num, by have q := hz1.out; simp [q], hb.out.trans (b5.mono hb.out.size)⟩, by simp [intOf]; omega⟩
      · obtain rfl : j = k + 2 := by omega
        have hfull : (seqs 1 k).take (k + 2) = seqs 1 k := List.take_of_length_le (by have := hlen.out; omega)
        rw [hfull]
        have he : (((best (com l) (seqs 1 k) : Nat) : Int) == (n : Int)) = decide (best (com l) (seqs 1 k) = l.length) := by
          rw [hl1]
          by_cases h : best (com l) (seqs 1 k) = n
          · simp [h]
          · have h' : ¬ ((best (com l) (seqs 1 k) : Nat) : Int) = (n : Int) := by omega
            simp [h, h']
        have hfin : Ending.returned (.tuple #[.bool (((best (com l) (seqs 1 k) : Nat) : Int) == (n : Int)), .int .i64 ((best (com l) (seqs 1 k) : Nat) : Int), .int .i64 0]) = .returned (.tuple #[.bool (legalR k l).1, .int .i64 (legalR k l).2.1, .int .i64 (legalR k l).2.2]) := by
          rw [he, hz.out]
        generalize best (com l) (seqs 1 k) = z at *
        replace hfin := Lib.hid hfin
        clear he hfull
        have hbb := hB.out.trans (hb.mono hB.out.size)
        replace hb := Lib.hid hb
        go_wp2_with (fail)
        refine bodyPost_ret (by simp [results, Try.results11, go_sem, *]; try with_reducible rfl) rfl ?_
        exact ⟨hfin.out, hbb⟩
  · have hz := Lib.hid (show legalR N l = (false, 0, 2) from by simp [legalR, hk])
    have hk' : okL N l = false := by simpa using hk
    rw [hk'] at hR
    clear h1 hk hk'
    go_wp2_with (fail)
    refine hR.mono ?_
    rintro e w1 ⟨rfl, b1⟩
    clear hR
    go_wp2_with (fail)
    refine bodyPost_ret (by simp [results, Try.results11, go_sem, *]; try with_reducible rfl) rfl ?_
    exact ⟨by have q := hz.out; simp [q], b1⟩
theorem rfind_none {l : List Ef} {xs : List (Int × List Ef)} (h : ∀ y ∈ xs, ¬ (y.2.length = l.length ∧ com l y.2 = l.length)) : xs.find? (fun m => decide (m.2.length = l.length ∧ com l m.2 = l.length)) = none := by
  rw [List.find?_eq_none]; intro y hy; simpa using h y hy
theorem rwhole_none {n : Int} {l : List Ef} (hk : okL n l = true) (h : ∀ y ∈ seqs 1 n.toNat, ¬ (y.2.length = l.length ∧ com l y.2 = l.length)) : wholeR n l = (0, false, 0) := by
  unfold wholeR; rw [if_pos hk, rfind_none h]
theorem rwhole_here {n : Int} {l : List Ef} (hk : okL n l = true) {j : Nat} {x : Int × List Ef} (hs : (seqs 1 n.toNat)[j]? = some x) (h : ∀ y ∈ (seqs 1 n.toNat).take j, ¬ (y.2.length = l.length ∧ com l y.2 = l.length)) (hx : x.2.length = l.length ∧ com l x.2 = l.length) : wholeR n l = (x.1, true, 0) := by
  have hl := (List.getElem?_eq_some_iff.1 hs).1
  have he := (List.getElem?_eq_some_iff.1 hs).2
  unfold wholeR
  have hsplit : seqs 1 n.toNat = (seqs 1 n.toNat).take j ++ x :: (seqs 1 n.toNat).drop (j + 1) := by
    conv => lhs; rw [← List.take_append_drop j (seqs 1 n.toNat), List.drop_eq_getElem_cons hl, he]
  rw [if_pos hk, hsplit, List.find?_append, rfind_none h]
  simp [hx]
theorem seqs_fst {s : Int} {k j : Nat} {x : Int × List Ef} (h : (seqs s k)[j]? = some x) : x.1 = if j ≤ k then 5 else 4 := by
  unfold seqs at h
  rcases Nat.lt_or_ge j (k + 1) with hj | hj
  · rw [List.getElem?_append_left (by simpa using hj)] at h
    simp [hj] at h
    rw [if_pos (by omega), ← h]
  · rw [List.getElem?_append_right (by simpa using hj)] at h
    have hj' : j - (k + 1) = 0 := by
      have := (List.getElem?_eq_some_iff.1 h).1
      simp at this; simpa using this
    simp at h
    rw [hj'] at h
    simp at h
    rw [if_neg (by omega), ← h]
set_option maxRecDepth 100000 in
set_option maxHeartbeats 8000000 in
theorem rwhole_any (N : Int) (A : Option Addr) (n c : Nat) (l : List Ef) (w : World) (h1 : ES w A n l) (hn : n ≤ 70368744177664) :
    Calls Try.prog 13 #[.int .i64 N, .slice A n c] w fun e w' => e = .returned (.tuple #[.int .i64 (wholeR N l).1, .bool (wholeR N l).2.1, .int .i64 (wholeR N l).2.2]) ∧ Below w.heap.size w w' := by
  have hl1 := h1.1
  go_enter Try.func13, Try.ntmps13
  have hR := rallowed_any N A n c l w h1 hn
  by_cases hk : okL N l = true
  · have hn8 := (okL_iff N l).1 hk
    replace hn8 := hn8.1
    obtain ⟨k, rfl⟩ : ∃ k : Nat, N = k := ⟨N.toNat, by omega⟩
    have hk8 : 1 ≤ k ∧ k ≤ 8 := by omega
    have hgl := fun j => allS_get (j := j) hk8
    have hcount : (allS (k : Int)).1.length = k + 2 := by rw [allS_ok hk8]; simp [seqAs]
    have hlen : (seqs 1 k).length = k + 2 := by simp [seqs]
    have hok : (allS (k : Int)).2 = 0 := by rw [allS_ok hk8]
    rw [hk] at hR
    replace hgl := Lib.hid hgl; replace h1 := Lib.hid h1; replace hcount := Lib.hid hcount; replace hlen := Lib.hid hlen; replace hk8 := Lib.hid hk8; replace hk := Lib.hid hk
    go_wp2_with (fail)
    refine hR.mono ?_
    rintro e w1 ⟨rfl, b1⟩
    clear hR
    go_wp2_with (fail)
    refine (rall_any k w1).mono ?_
    rintro e w2 ⟨B, m, d, xs, rfl, hA⟩
    rw [hok]
    have hm : m = k + 2 := by have := hA.two; have := hcount.out; omega
    subst hm
    have hB : Below w.heap.size w w2 := b1.trans (hA.bel.mono b1.size)
    clear b1
    replace hA := Lib.hid hA; replace hB := Lib.hid hB
    go_wp2_with (fail)
    go_loopw [9] (fun i wr => ∃ j : Nat, j ≤ k + 2 ∧ i = .int .i64 j ∧ (∀ y ∈ (seqs 1 k).take j, ¬ (y.2.length = l.length ∧ com l y.2 = l.length)) ∧ Below w2.heap.size w2 wr) (fun i _ => k + 2 - (intOf i).toNat)
    case atStart => exact ⟨0, by omega, rfl, by simp, Below.refl _ _⟩
    case round =>
      obtain ⟨j, hj, rfl, hno, hb⟩ := hrel
      by_cases hlt : j < k + 2
      · obtain ⟨b, o, A1, n1, c1, ls, rfl, hbl, hcell, hls, hO⟩ := (hA.out.keep hb).at_ hlt
        have hq : (seqs 1 k)[j]? = some ((seqs 1 k)[j]'(by have := hlen.out; omega)) := List.getElem?_eq_getElem _
        generalize (seqs 1 k)[j]'(by have := hlen.out; omega) = x at hq
        have hls2 : x.2 = ls := by
          have := hgl.out j
          rw [hls, hq] at this
          simpa using this.symm
        subst hls2
        have hsl := seqs_len (List.mem_of_getElem? hq)
        rw [hO.len] at hsl
        have hx1 := seqs_fst hq
        have E1 : ES wr A n l := SL.keep h1.out (hB.out.trans (hb.mono hB.out.size))
        have hC := common_any A A1 n c n1 c1 l x.2 wr E1 hO.es hn (by have := hk8.out; omega)
        have hmore : ¬ (x.2.length = l.length ∧ com l x.2 = l.length) → ∀ y ∈ (seqs 1 k).take (j + 1), ¬ (y.2.length = l.length ∧ com l y.2 = l.length) := fun hx y hy => by
          rw [List.take_add_one, hq] at hy
          simp only [Option.toList, List.mem_append, List.mem_singleton] at hy
          rcases hy with hy | rfl
          · exact hno y hy
          · exact hx
        have hhere : x.2.length = l.length ∧ com l x.2 = l.length → wholeR (k : Int) l = (x.1, true, 0) := fun hx => rwhole_here hk.out (by simpa using hq) (by simpa using hno) hx
        have j0 : (0 : Int) ≤ j := by omega
        have j1 : (j : Int) < ((k + 2 : Nat) : Int) := by omega
        have hlx := hO.len
        replace hO := Lib.hid hO; replace E1 := Lib.hid E1; replace hq := Lib.hid hq; replace hls := Lib.hid hls; replace hb := Lib.hid hb; replace hno := Lib.hid hno; replace hmore := Lib.hid hmore; replace hhere := Lib.hid hhere
        by_cases g1 : n1 = n
        · subst g1
          by_cases g2 : com l x.2 = n1
          · have d2 : (((com l x.2 : Nat) : Int) != (n1 : Int)) = false := by simp [g2]
            have hz := Lib.hid (hhere.out ⟨by omega, by omega⟩)
            clear hmore hhere hsl
            generalize com l x.2 = z at *
            replace g2 := Lib.hid g2; replace hlx := Lib.hid hlx
            by_cases g3 : j ≤ k
            · rw [if_pos g3] at hx1
              have g3' : (j : Int) ≤ k := by omega
              replace hx1 := Lib.hid hx1
              go_wp2_with (fail)
              refine hC.mono ?_
              rintro e w5 ⟨rfl, b5⟩
              clear hC
              go_wp2_with (fail)
              refine bodyPost_ret (by simp [results, Try.results13, go_sem, *]; try with_reducible rfl) rfl ?_
              exact ⟨by have q := hz.out; have q2 := hx1.out; simp [q, q2], hB.out.trans ((hb.out.trans (b5.mono hb.out.size)).mono hB.out.size)⟩
            · rw [if_neg g3] at hx1
              have g3' : ¬ (j : Int) ≤ k := by omega
              replace hx1 := Lib.hid hx1
              go_wp2_with (fail)
              refine hC.mono ?_
              rintro e w5 ⟨rfl, b5⟩
              clear hC
              go_wp2_with (fail)
              refine bodyPost_ret (by simp [results, Try.results13, go_sem, *]; try with_reducible rfl) rfl ?_
              exact ⟨by have q := hz.out; have q2 := hx1.out; simp [q, q2], hB.out.trans ((hb.out.trans (b5.mono hb.out.size)).mono hB.out.size)⟩
          · have d2 : (((com l x.2 : Nat) : Int) != (n1 : Int)) = true := by simp; omega
            have hz := Lib.hid (hmore.out (fun q => g2 (by omega)))
            clear hmore hhere hsl hx1
            generalize com l x.2 = z at *
            replace g2 := Lib.hid g2; replace hlx := Lib.hid hlx
            go_wp2_with (fail)
            refine hC.mono ?_
            rintro e w5 ⟨rfl, b5⟩
            clear hC
            go_wp2_with (fail)
            exact ⟨⟨j + 1, by omega, by go_num, hz.out, hb.out.trans (b5.mono hb.out.size)⟩, by simp [intOf]; omega⟩
        · have d1 : ((n1 : Int) != (n : Int)) = true := by simp; omega
          have hz := Lib.hid (hmore.out (fun q => g1 (by omega)))
          clear hmore hhere hsl hx1 hC
          go_wp2_with (fail)
          exact ⟨⟨j + 1, by omega, by go_num, hz.out, hb.out⟩, by simp [intOf]; omega⟩
      · obtain rfl : j = k + 2 := by omega
        have hz := Lib.hid (rwhole_none hk.out (n := (k : Int)) (l := l) (by
          have hfull : (seqs 1 k).take (k + 2) = seqs 1 k := List.take_of_length_le (by have := hlen.out; omega)
          rw [hfull] at hno
          simpa using hno))
        have hbb := hB.out.trans (hb.mono hB.out.size)
        replace hb := Lib.hid hb; replace hno := Lib.hid hno
        go_wp2_with (fail)
        refine bodyPost_ret (by simp [results, Try.results13, go_sem, *]; try with_reducible rfl) rfl ?_
        exact ⟨by have q := hz.out; simp [q], hbb⟩
  · have hz := Lib.hid (show wholeR N l = (0, false, 2) from by simp [wholeR, hk])
    have hk' : okL N l = false := by simpa using hk
    rw [hk'] at hR
    clear h1 hk hk'
    go_wp2_with (fail)
    refine hR.mono ?_
    rintro e w1 ⟨rfl, b1⟩
    clear hR
    go_wp2_with (fail)
    refine bodyPost_ret (by simp [results, Try.results13, go_sem, *]; try with_reducible rfl) rfl ?_
    exact ⟨by have q := hz.out; simp [q], b1⟩
end Go.Proofs.Ythmkfbabacehnaa
