/- The reference's reader: contracts of Int, Text, Bool and Read. -/
import Derived.Test.YtcapeefhbkgogaaRefR
namespace Go.Proofs.Ytcapeefhbkgogaa
open Go.RowKit
set_option linter.unusedSimpArgs false
set_option linter.unusedVariables false
set_option linter.unusedSectionVars false
set_option maxRecDepth 10000
attribute [local go_sem ↓] hideAppend
theorem rdU_lt (s : RS) : (rdU s).1 < 18446744073709551616 := by
  match s with
  | none => simp [rdU]
  | some b =>
    rcases dec_or b with hd | ⟨v, k, hd⟩
    · rw [rdU_bad hd]; simp
    · rw [rdU_ok hd]; have := (dec_sound hd).1; omega
theorem RrTo.then {w w1 w2 : World} {g : Nat} {s s' : RS} (hc : Chg (fun k => k = g) w w1) (h : RrTo w1 g s w2) : RrTo w g s w2 := by
  obtain ⟨A', c', h1, h2⟩ := h
  exact ⟨A', c', h1, hc.trans h2 fun _ _ e => e⟩
theorem rdB_cases (s : RS) : ((rdU s).2 = none ∧ (rdU s).1 = 0 ∧ rdB s = (false, none)) ∨ (1 < (rdU s).1 ∧ rdB s = (false, none)) ∨ (¬ 1 < (rdU s).1 ∧ rdB s = ((rdU s).1 == 1, (rdU s).2)) := by
  match s with
  | none => exact .inl ⟨rfl, rfl, rfl⟩
  | some b =>
    rcases dec_or b with hd | ⟨v, k, hd⟩
    · rw [rdU_bad hd, rdB_bad hd]; exact .inl ⟨rfl, rfl, rfl⟩
    · rw [rdU_ok hd]
      by_cases hb : 1 < v
      · rw [rdB_big hd hb]; exact .inr (.inl ⟨hb, rfl⟩)
      · rw [rdB_ok hd hb]; exact .inr (.inr ⟨hb, rfl⟩)
theorem rdT_cases (s : RS) : ((rdU s).2 = none ∧ rdT s = ([], none)) ∨ ∃ b, (rdU s).2 = some b ∧ (((65536 < (rdU s).1 ∨ b.length < (rdU s).1) ∧ rdT s = ([], none)) ∨ (¬ (65536 < (rdU s).1 ∨ b.length < (rdU s).1) ∧ rdT s = (b.take (rdU s).1, some (b.drop (rdU s).1)))) := by
  match h : rdU s with
  | (v, none) => exact .inl ⟨rfl, by simp [rdT, h]⟩
  | (v, some b) =>
    refine .inr ⟨b, rfl, ?_⟩
    by_cases hb : 65536 < v ∨ b.length < v
    · exact .inl ⟨hb, by simp only [rdT, h]; exact if_pos hb⟩
    · exact .inr ⟨hb, by simp only [rdT, h]; exact if_neg hb⟩
section
variable {w : World} {g c : Nat} {A : Option Addr} (s : RS) (h : IsRr w g A c s)
include h
set_option maxHeartbeats 1000000 in
theorem rIntR_any : Calls Try.prog 52 #[.pointer (some ⟨g, 0, none⟩)] w fun e w' => e = .returned (.int .i64 (rdI s).1) ∧ RrTo w g (rdI s).2 w' := by
  have hlt := rdU_lt s
  go_enter Try.func52, Try.ntmps52
  go_wp2_with (first
    | (go_at_call 51; refine (rUintR_any s h).mono ?_; rintro e w1 ⟨rfl, ht⟩)
    | (go_at_call 77; refine (refZag_any _ hlt _).mono ?_; rintro e w2 ⟨rfl, rfl⟩))
  go_ret
  exact ⟨rfl, ht⟩
set_option maxHeartbeats 1000000 in
theorem rBoolR_any : Calls Try.prog 54 #[.pointer (some ⟨g, 0, none⟩)] w fun e w' => e = .returned (.bool (rdB s).1) ∧ RrTo w g (rdB s).2 w' := by
  have hcs : ∃ v s1, (rdU s).1 = v ∧ (rdU s).2 = s1 ∧ ((1 < v ∧ rdB s = (false, none)) ∨ (¬ 1 < v ∧ rdB s = (((v : Int) == 1), s1))) := by
    refine ⟨_, _, rfl, rfl, ?_⟩
    have hb : ∀ v : Nat, ((v : Int) == 1) = (v == 1) := fun v => by rw [Bool.eq_iff_iff]; simp; omega
    rcases rdB_cases s with ⟨h1, h2, h3⟩ | ⟨h1, h3⟩ | ⟨h1, h3⟩
    · right; rw [h1, h2, h3]; exact ⟨by omega, rfl⟩
    · exact .inl ⟨h1, h3⟩
    · right; rw [hb]; exact ⟨h1, h3⟩
  obtain ⟨v, s1, hv, hs1, hcs⟩ := hcs
  replace hv := Lib.hid hv
  replace hs1 := Lib.hid hs1
  rcases hcs with ⟨h1, h2⟩ | ⟨h1, h2⟩
  · replace h2 := Lib.hid h2
    have h1 : (1 : Int) < (v : Int) := by omega
    go_enter Try.func54, Try.ntmps54
    go_wp2_with (first
      | (go_at_call 51; refine (rUintR_any s h).mono ?_; rintro e w1 ⟨he, A1, c1, i1, k1⟩; rw [hv.out] at he; subst he)
      | (go_at_call 55; refine (rfail_p i1).mono ?_; rintro e w2 ⟨rfl, ht⟩))
    go_ret
    exact ⟨by rw [h2.out]; rfl, by rw [h2.out]; exact RrTo.then (s' := none) k1 ht⟩
  · replace h2 := Lib.hid h2
    have h1 : ¬ (1 : Int) < (v : Int) := by omega
    go_enter Try.func54, Try.ntmps54
    go_wp2_with (first
      | (go_at_call 51; refine (rUintR_any s h).mono ?_; rintro e w1 ⟨he, ht⟩; rw [hv.out] at he; subst he))
    go_ret
    exact ⟨by rw [h2.out]; rfl, by rw [h2.out]; rw [hs1.out] at ht; exact ht⟩
set_option maxHeartbeats 2000000 in
theorem rTextR_any : Calls Try.prog 53 #[.pointer (some ⟨g, 0, none⟩)] w fun e w' => e = .returned (.string (strOf (rdT s).1)) ∧ RrTo w g (rdT s).2 w' := by
  have hv64 := rdU_lt s
  rcases rdT_cases s with ⟨hs1, hr⟩ | ⟨b, hs1, ⟨hb, hr⟩ | ⟨hb, hr⟩⟩
  · replace hs1 := Lib.hid hs1
    replace hr := Lib.hid hr
    go_enter Try.func53, Try.ntmps53
    go_wp2_with (fail)
    refine (rUintR_any s h).mono ?_
    rintro e w1 ⟨rfl, ht⟩
    rw [hs1.out] at ht
    obtain ⟨A1, c1, i1, k1⟩ := ht
    have d2 := i1.c2
    simp only [Option.isNone_none] at d2
    have hfin := Lib.hid (show RrTo w g none w1 from ⟨A1, c1, i1, k1⟩)
    go_wp2_with (go_at_call 50; refine (rvalid_p i1).mono ?_; rintro e w' ⟨rfl, rfl⟩)
    go_ret
    exact ⟨by rw [hr.out]; rfl, by rw [hr.out]; exact hfin.out⟩
  · replace hs1 := Lib.hid hs1
    replace hr := Lib.hid hr
    generalize hv : (rdU s).1 = v at *
    replace hv := Lib.hid hv
    by_cases hb1 : 65536 < v
    all_goals
      go_enter Try.func53, Try.ntmps53
      go_wp2_with (fail)
      refine (rUintR_any s h).mono ?_
      rintro e w1 ⟨he, ht⟩
      rw [hv.out] at he
      subst he
      rw [hs1.out] at ht
      obtain ⟨A1, c1, i1, k1⟩ := ht
      have d2 := i1.c2
      have d1 := i1.c1
      have hln := i1.len
      simp only [Option.isNone_some, left] at d2 d1 hln
      have hb2 : ¬ 65536 < v → (b.length : Int) < (v : Int) := by omega
      have hb3 : (65536 : Int) < (v : Int) ∨ (b.length : Int) < (v : Int) := by omega
      generalize b.length = n at *
    · have hbi : (65536 : Int) < (v : Int) := by omega
      clear hb1 hb hb2 hb3
      go_wp2_with (first
        | (go_at_call 50; refine (rvalid_p i1).mono ?_; rintro e w' ⟨rfl, rfl⟩)
        | (go_at_call 55; refine (rfail_p i1).mono ?_; rintro e w2 ⟨rfl, ht⟩))
      go_ret
      exact ⟨by rw [hr.out]; rfl, by rw [hr.out]; exact RrTo.then (s' := none) k1 ht⟩
    · have hbi : ¬ (65536 : Int) < (v : Int) := by omega
      have hbj := hb2 hb1
      clear hb1 hb hb2 hb3
      go_wp2_with (first
        | (go_at_call 50; refine (rvalid_p i1).mono ?_; rintro e w' ⟨rfl, rfl⟩)
        | (go_at_call 55; refine (rfail_p i1).mono ?_; rintro e w2 ⟨rfl, ht⟩))
      go_ret
      exact ⟨by rw [hr.out]; rfl, by rw [hr.out]; exact RrTo.then (s' := none) k1 ht⟩
  · replace hs1 := Lib.hid hs1
    replace hr := Lib.hid hr
    generalize hv : (rdU s).1 = v at *
    replace hv := Lib.hid hv
    go_enter Try.func53, Try.ntmps53
    go_wp2_with (fail)
    refine (rUintR_any s h).mono ?_
    rintro e w1 ⟨he, ht⟩
    rw [hv.out] at he
    subst he
    rw [hs1.out] at ht
    obtain ⟨A1, c1, i1, k1⟩ := ht
    have d2 := i1.c2
    have d1 := i1.c1
    have f1 := i1.fz 1
    have hln := i1.len
    have hcap := i1.cap
    have hs2 := (i1.rb.first (k := v) (by simp only [left]; omega)).str c1
    have hq := i1.cutTo (k := v) (by simp only [left]; omega) (s' := some (b.drop v)) rfl rfl
    simp only [Option.isNone_some, left] at d2 d1 hln hcap hs2 hq
    have hbi : ¬ (65536 : Int) < (v : Int) := by omega
    have hbj : ¬ (b.length : Int) < (v : Int) := by omega
    generalize b.length = n at *
    clear hb
    by_cases hck : c1 = v
    · rw [if_pos hck, show n - v = 0 from by omega] at hq
      subst hck
      rw [Nat.sub_self] at hq
      replace hq := Lib.hid hq
      go_wp2_with (first
        | (go_at_call 50; refine (rvalid_p i1).mono ?_; rintro e w' ⟨rfl, rfl⟩))
      go_ret
      exact ⟨by rw [hr.out]; rfl, by rw [hr.out]; exact RrTo.then (s' := none) k1 hq.out⟩
    · rw [if_neg hck] at hq
      replace hq := Lib.hid hq
      go_wp2_with (first
        | (go_at_call 50; refine (rvalid_p i1).mono ?_; rintro e w' ⟨rfl, rfl⟩))
      go_ret
      exact ⟨by rw [hr.out]; rfl, by rw [hr.out]; exact RrTo.then (s' := none) k1 hq.out⟩
end
set_option maxHeartbeats 1000000 in
theorem readR_any {A : Option Addr} {n c : Nat} {xs : List UInt8} {w : World} (h : RB w A n xs) (hn : n ≤ 70368744177664) : Calls Try.prog 24 #[.slice A n c] w fun e w' => ∃ g A' c', e = .returned (.pointer (some ⟨g, 0, none⟩)) ∧ w.heap.size ≤ g ∧ IsRr w' g A' c' (some xs) ∧ (∀ k, rowOf A' = some k → w.heap.size ≤ k) ∧ Below w.heap.size w w' := by
  have hl := Lib.hid h.1
  have hbw : Below w.heap.size w (w.alloc (.cells #[] 5)) := (Below.refl _ _).alloc (Nat.le_refl _) _
  obtain ⟨A2, c2, w2, hrun, hown, hgr, _⟩ := append_rb (W := w.alloc (.cells #[] 5)) (base := w.heap.size) (c := 0) (A := some ⟨w.heap.size, 0, none⟩) (xs := []) (d := c) (World.ownsRow_made w #[] 0 (Nat.le_refl _) (Nat.zero_le _) rfl) (by simp) (h.below hbw) (by simp; omega)
  rw [List.nil_append] at hrun hown
  have hrun := (show (appSem #[35, 35] 35 #[.slice (some ⟨w.heap.size, 0, none⟩) 0 0, .slice A n c]).run Try.prog (w.alloc (.cells #[] 5)) = .ok (.slice A2 xs.length c2) w2 from hrun)
  have hb2 : Below w.heap.size w w2 := hbw.grown hgr (by simp) fun k e => by have e : w.heap.size = k := Option.some.inj e; omega
  go_enter Try.func24, Try.ntmps24
  go_wp2_with (fail)
  go_ret
  refine ⟨w2.heap.size, A2, c2, rfl, hb2.size, ⟨heap_alloc_new w2 _, (RB.of_own hown).below ((Below.refl _ w2).alloc (Nat.le_refl _) _), ?_, ?_, (RowTy.of_own hown).keepR (S := fun _ => False) (Chg.of_below ((Below.refl _ w2).alloc (Nat.le_refl _) _) _) fun _ _ q => q⟩, ?_, hb2.trans (((Below.refl _ w2).alloc (Nat.le_refl _) _).mono hb2.size)⟩
  · simp only [left]
    rcases hown.2 with ⟨e, e2⟩ | ⟨k, cp, cur, e, _, _, hle, _⟩
    · omega
    · simp only [Value.slice.injEq] at e
      omega
  · simp only [left]
    rw [hl.out]; exact hn
  · intro k hk
    exact (hown.lt k (by rw [own_rowOf]; exact hk)).1
end Go.Proofs.Ytcapeefhbkgogaa
