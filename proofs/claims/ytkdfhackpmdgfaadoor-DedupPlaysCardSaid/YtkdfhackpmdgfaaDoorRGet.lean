/- The document's table: Get, Key; whether a range is valid. -/
import Derived.Test.YtkdfhackpmdgfaaDoorRFind
namespace Go.Proofs.YtkdfhackpmdgfaaDoor
open Go.RowKit Go.Shelf
set_option linter.unusedSimpArgs false
set_option linter.unusedVariables false
set_option linter.unusedSectionVars false
set_option maxRecDepth 10000
set_option maxHeartbeats 4000000 in
theorem rget_any {base D c : Nat} {size : Int} {A : Option Addr} {P : List En} {w : World} (h : TabR base D size A c P w) (y : Ef) : Calls Tryd.prog 40 #[.pointer (some ⟨D, 0, none⟩), .agg #[.int .i64 y.1, .int .i64 y.2.1, .int .i64 y.2.2]] w fun e w' => e = .returned (.tuple #[.agg #[.int .i64 (getR P y).1, .int .i64 (getR P y).2.1, .string (getR P y).2.2], .bool (hasB P y)]) ∧ Below w.heap.size w w' := by
  rcases findI_look P y with ⟨hi, hl⟩ | ⟨i, x, hi, hx, hl⟩
  · have hg : getR P y = (0, 0, noText) ∧ hasB P y = false := by unfold getR hasB; rw [hl]; exact ⟨rfl, rfl⟩
    rw [hg.1, hg.2]
    clear hg
    have kb := ((Below.refl w.heap.size w).alloc (Nat.le_refl _) (.cells #[.int .i64 y.1, .int .i64 y.2.1, .int .i64 y.2.2] 23)).alloc (by simp) (.cells #[.int .i64 0, .int .i64 0, .string ⟨#[]⟩] 43)
    have hT := h.below kb
    have hz0 := hpNew (w.alloc (.cells #[.int .i64 y.1, .int .i64 y.2.1, .int .i64 y.2.2] 23)) (.cells #[.int .i64 0, .int .i64 0, .string ⟨#[]⟩] 43)
    rw [show (w.alloc (.cells #[.int .i64 y.1, .int .i64 y.2.1, .int .i64 y.2.2] 23)).heap.size = w.heap.size + 1 from by simp] at hz0
    obtain ⟨W1, hW1⟩ : ∃ W1, W1 = (w.alloc (.cells #[.int .i64 y.1, .int .i64 y.2.1, .int .i64 y.2.2] 23)).alloc (.cells #[.int .i64 0, .int .i64 0, .string ⟨#[]⟩] 43) := ⟨_, rfl⟩
    rw [← hW1] at kb hT hz0
    have hf := rfind_any hT y
    rw [hi] at hf
    have hlen : P.length ≤ 2048 := by have := h.le; have := h.sz; omega
    replace kb := Lib.hid kb; replace hT := Lib.hid hT; replace hz0 := Lib.hid hz0
    clear h
    go_enter Tryd.func40, Tryd.ntmps40
    go_wp2_with (fail)
    rw [← hW1]
    replace hW1 := Lib.hid hW1
    refine hf.mono ?_
    rintro e w2 ⟨rfl, b2⟩
    have T2 := hT.out.below b2
    have z2 := (b2.block _ (blkX hz0.out)).trans hz0.out
    have B2 := Lib.hid (kb.out.trans (b2.mono kb.out.size))
    have t1 := blkC T2.blk 1
    have z0 := blkC z2 0; have z1 := blkC z2 1; have z3 := blkC z2 2; have f0 := blkF z2
    simp only [List.getElem?_toArray, List.getElem?_cons_zero, List.getElem?_cons_succ] at t1 z0 z1 z3
    clear hf b2
    replace T2 := Lib.hid T2; replace hi := Lib.hid hi; replace hl := Lib.hid hl
    go_wp2_with (fail)
    refine bodyPost_ret (by simp [results, Tryd.results40, go_sem, *]; try with_reducible rfl) rfl ?_
    refine ⟨rfl, ?_⟩
    repeat (first | (refine Below.setCell ?_ (by simp) _) | exact B2.out)
  · have hg : getR P y = x.r ∧ hasB P y = true := by unfold getR hasB; rw [hl]; exact ⟨rfl, rfl⟩
    rw [hg.1, hg.2]
    clear hg
    have hil : i < P.length := (List.getElem?_eq_some_iff.1 hx).1
    have kb := ((Below.refl w.heap.size w).alloc (Nat.le_refl _) (.cells #[.int .i64 y.1, .int .i64 y.2.1, .int .i64 y.2.2] 23)).alloc (by simp) (.cells #[.int .i64 0, .int .i64 0, .string ⟨#[]⟩] 43)
    have hT := h.below kb
    have hz0 := hpNew (w.alloc (.cells #[.int .i64 y.1, .int .i64 y.2.1, .int .i64 y.2.2] 23)) (.cells #[.int .i64 0, .int .i64 0, .string ⟨#[]⟩] 43)
    rw [show (w.alloc (.cells #[.int .i64 y.1, .int .i64 y.2.1, .int .i64 y.2.2] 23)).heap.size = w.heap.size + 1 from by simp] at hz0
    obtain ⟨W1, hW1⟩ : ∃ W1, W1 = (w.alloc (.cells #[.int .i64 y.1, .int .i64 y.2.1, .int .i64 y.2.2] 23)).alloc (.cells #[.int .i64 0, .int .i64 0, .string ⟨#[]⟩] 43) := ⟨_, rfl⟩
    rw [← hW1] at kb hT hz0
    have hf := rfind_any hT y
    rw [hi] at hf
    have hlen : P.length ≤ 2048 := by have := h.le; have := h.sz; omega
    replace kb := Lib.hid kb; replace hT := Lib.hid hT; replace hz0 := Lib.hid hz0
    clear h
    go_enter Tryd.func40, Tryd.ntmps40
    go_wp2_with (fail)
    rw [← hW1]
    replace hW1 := Lib.hid hW1
    refine hf.mono ?_
    rintro e w2 ⟨rfl, b2⟩
    have T2 := hT.out.below b2
    have z2 := (b2.block _ (blkX hz0.out)).trans hz0.out
    have B2 := Lib.hid (kb.out.trans (b2.mono kb.out.size))
    have t1 := blkC T2.blk 1
    have z0 := blkC z2 0; have z1 := blkC z2 1; have z3 := blkC z2 2; have f0 := blkF z2
    simp only [List.getElem?_toArray, List.getElem?_cons_zero, List.getElem?_cons_succ] at t1 z0 z1 z3
    clear hf b2
    obtain ⟨xb, xo, x', rfl, hxl, hx', hcell⟩ := T2.rs.at_ hil
    obtain rfl : x' = x := Option.some.inj (hx'.symm.trans hx)
    have c4 := hcell 4 _ rfl
    have c5 := hcell 5 _ rfl
    have c6 := hcell 6 _ rfl
    have j0 : (0 : Int) ≤ i := by omega
    have j1 : (i : Int) < P.length := by omega
    replace T2 := Lib.hid T2; replace hi := Lib.hid hi; replace hl := Lib.hid hl; replace hx := Lib.hid hx; replace hx' := Lib.hid hx'
    clear hcell
    go_wp2_with (fail)
    refine bodyPost_ret (by simp [results, Tryd.results40, go_sem, *]; try with_reducible rfl) rfl ?_
    refine ⟨rfl, ?_⟩
    repeat (first | (refine Below.setCell ?_ (by simp) _) | exact B2.out)
set_option maxHeartbeats 4000000 in
theorem rkey_any {base D c : Nat} {size : Int} {A : Option Addr} {P : List En} {w : World} (h : TabR base D size A c P w) (y : Ef) : Calls Tryd.prog 41 #[.pointer (some ⟨D, 0, none⟩), .agg #[.int .i64 y.1, .int .i64 y.2.1, .int .i64 y.2.2]] w fun e w' => e = .returned (.tuple #[.string (getK P y), .bool (hasB P y)]) ∧ Below w.heap.size w w' := by
  rcases findI_look P y with ⟨hi, hl⟩ | ⟨i, x, hi, hx, hl⟩
  · have hg : getK P y = noText ∧ hasB P y = false := by unfold getK hasB; rw [hl]; exact ⟨rfl, rfl⟩
    rw [hg.1, hg.2]
    clear hg
    have kb := (Below.refl w.heap.size w).alloc (Nat.le_refl _) (.cells #[.int .i64 y.1, .int .i64 y.2.1, .int .i64 y.2.2] 23)
    have hT := h.below kb
    obtain ⟨W1, hW1⟩ : ∃ W1, W1 = w.alloc (.cells #[.int .i64 y.1, .int .i64 y.2.1, .int .i64 y.2.2] 23) := ⟨_, rfl⟩
    rw [← hW1] at kb hT
    have hf := rfind_any hT y
    rw [hi] at hf
    have hlen : P.length ≤ 2048 := by have := h.le; have := h.sz; omega
    replace kb := Lib.hid kb; replace hT := Lib.hid hT
    clear h
    go_enter Tryd.func41, Tryd.ntmps41
    go_wp2_with (fail)
    rw [← hW1]
    replace hW1 := Lib.hid hW1
    refine hf.mono ?_
    rintro e w2 ⟨rfl, b2⟩
    have T2 := hT.out.below b2
    have B2 := Lib.hid (kb.out.trans (b2.mono kb.out.size))
    have t1 := blkC T2.blk 1
    simp only [List.getElem?_toArray, List.getElem?_cons_zero, List.getElem?_cons_succ] at t1
    clear hf b2
    replace T2 := Lib.hid T2; replace hi := Lib.hid hi; replace hl := Lib.hid hl
    go_wp2_with (fail)
    refine bodyPost_ret (by simp [results, Tryd.results41, go_sem, *]; try with_reducible rfl) rfl ?_
    refine ⟨rfl, ?_⟩
    repeat (first | (refine Below.setCell ?_ (by simp) _) | exact B2.out)
  · have hg : getK P y = x.k ∧ hasB P y = true := by unfold getK hasB; rw [hl]; exact ⟨rfl, rfl⟩
    rw [hg.1, hg.2]
    clear hg
    have hil : i < P.length := (List.getElem?_eq_some_iff.1 hx).1
    have kb := (Below.refl w.heap.size w).alloc (Nat.le_refl _) (.cells #[.int .i64 y.1, .int .i64 y.2.1, .int .i64 y.2.2] 23)
    have hT := h.below kb
    obtain ⟨W1, hW1⟩ : ∃ W1, W1 = w.alloc (.cells #[.int .i64 y.1, .int .i64 y.2.1, .int .i64 y.2.2] 23) := ⟨_, rfl⟩
    rw [← hW1] at kb hT
    have hf := rfind_any hT y
    rw [hi] at hf
    have hlen : P.length ≤ 2048 := by have := h.le; have := h.sz; omega
    replace kb := Lib.hid kb; replace hT := Lib.hid hT
    clear h
    go_enter Tryd.func41, Tryd.ntmps41
    go_wp2_with (fail)
    rw [← hW1]
    replace hW1 := Lib.hid hW1
    refine hf.mono ?_
    rintro e w2 ⟨rfl, b2⟩
    have T2 := hT.out.below b2
    have B2 := Lib.hid (kb.out.trans (b2.mono kb.out.size))
    have t1 := blkC T2.blk 1
    simp only [List.getElem?_toArray, List.getElem?_cons_zero, List.getElem?_cons_succ] at t1
    clear hf b2
    obtain ⟨xb, xo, x', rfl, hxl, hx', hcell⟩ := T2.rs.at_ hil
    obtain rfl : x' = x := Option.some.inj (hx'.symm.trans hx)
    have c3 := hcell 3 _ rfl
    have j0 : (0 : Int) ≤ i := by omega
    have j1 : (i : Int) < P.length := by omega
    replace T2 := Lib.hid T2; replace hi := Lib.hid hi; replace hl := Lib.hid hl; replace hx := Lib.hid hx; replace hx' := Lib.hid hx'
    clear hcell
    go_wp2_with (fail)
    refine bodyPost_ret (by simp [results, Tryd.results41, go_sem, *]; try with_reducible rfl) rfl ?_
    refine ⟨rfl, ?_⟩
    repeat (first | (refine Below.setCell ?_ (by simp) _) | exact B2.out)
set_option maxHeartbeats 4000000 in
theorem rvalid_any (a b : ByteArray) (ha : a.size ≤ 140737488355328) (hb : b.size ≤ 140737488355328) (w : World) : Calls Tryd.prog 38 #[.agg #[.string a, .string b]] w fun e w' => e = .returned (.bool (okG (a, b))) ∧ Below w.heap.size w w' := by
  have kb := Lib.hid ((Below.refl w.heap.size w).alloc (Nat.le_refl _) (.cells #[.string a, .string b] 25))
  have hv : okG (a, b) = (endB a && endB b && (decide (b = noText) || lessB a b)) := rfl
  rw [hv]
  cases h1 : endB a with
  | false =>
    have hr := rend_any a ha
    rw [h1] at hr
    go_enter Tryd.func38, Tryd.ntmps38
    go_wp2_with (fail)
    refine (hr _).mono ?_
    rintro e w2 ⟨rfl, rfl⟩
    clear hr
    go_wp2_with (fail)
    go_ret
    exact ⟨rfl, kb.out⟩
  | true =>
    have hr := rend_any a ha
    rw [h1] at hr
    cases h2 : endB b with
    | false =>
      have hr2 := rend_any b hb
      rw [h2] at hr2
      go_enter Tryd.func38, Tryd.ntmps38
      go_wp2_with (fail)
      refine (hr _).mono ?_
      rintro e w2 ⟨rfl, rfl⟩
      clear hr
      go_wp2_with (fail)
      refine (hr2 _).mono ?_
      rintro e w2 ⟨rfl, rfl⟩
      clear hr2
      go_wp2_with (fail)
      go_ret
      exact ⟨rfl, kb.out⟩
    | true =>
      have hr2 := rend_any b hb
      rw [h2] at hr2
      have h4 : decide (b = noText) = decide (b.toList = []) := decide_eq_decide.2 tl_nil.symm
      rw [h4]
      replace h4 := Lib.hid h4
      by_cases h3 : b.toList = [] <;> cases h5 : Op.bytesLess a.toList b.toList
      all_goals
        have h6 : lessB a b = _ := h5
        rw [h6]
        replace h6 := Lib.hid h6
        go_enter Tryd.func38, Tryd.ntmps38
        go_wp2_with (fail)
        refine (hr _).mono ?_
        rintro e w2 ⟨rfl, rfl⟩
        clear hr
        go_wp2_with (fail)
        refine (hr2 _).mono ?_
        rintro e w2 ⟨rfl, rfl⟩
        clear hr2
        go_wp2_with (fail)
        go_ret
        exact ⟨by simp [h3, h5], kb.out⟩
end Go.Proofs.YtkdfhackpmdgfaaDoor
