/- EffectsLegal's walk. -/
import Derived.Test.YthmkfbabacehnaaWorks
namespace Go.Proofs.Ythmkfbabacehnaa
open Go.RowKit Go.Shelf
set_option linter.unusedSimpArgs false
set_option linter.unusedVariables false
set_option linter.unusedSectionVars false
set_option maxRecDepth 10000
attribute [local go_sem ↓] hideAppend
/-- append([]api.Effect{}, l...). -/
theorem copy_any {A : Option Addr} {n c : Nat} {l : List Ef} {w : World} (h : ES w A n l) (hn : n ≤ 100000) : ∃ A' c' W', (appSem #[22, 22] 22 #[.slice (some ⟨w.heap.size, 0, none⟩) 0 0, .slice A n c]).run Try.prog (w.alloc (.cells #[] 40)) = .ok (.slice A' n c') W' ∧ OwnE w A' n c' l W' := by
  have hbw := (Below.refl w.heap.size w).alloc (Nat.le_refl _) (.cells #[] 40)
  have h0 : OwnE w (some ⟨w.heap.size, 0, none⟩) 0 0 [] (w.alloc (.cells #[] 40)) := ⟨hbw, ⟨rfl, .inr ⟨w.heap.size, 0, #[], rfl, Nat.le_refl _, hpNew w _, Nat.le_refl _, Nat.zero_le _, rfl, rfl⟩⟩, rfl, Nat.le_refl _⟩
  obtain ⟨A', c', W', hrun, hO⟩ := cat_any (d := c) h0 (SL.keep h hbw) (by omega) hn
  rw [Nat.zero_add] at hrun hO
  exact ⟨A', c', W', hrun, hO⟩
theorem nextR_len (N : Int) (l : List Ef) : (nextR N l).1.length ≤ 24 := by
  unfold nextR
  split
  · rename_i h
    have h8 := ((okL_iff N l).1 h).1
    split
    · have h1 := List.length_filter_le (may N.toNat l) (grid (head l) N.toNat)
      rw [grid_len] at h1
      simp only; omega
    · simp
  · simp
theorem legal60 (A : Option Addr) (N : Int) (n c : Nat) (hlen : 60 < n) (w : World) : Calls Try.prog 3 #[.int .i64 N, .slice A n c] w fun e w' => e = .returned (.bool true) ∧ Below w.heap.size w w' := by
  go_enter Try.func3, Try.ntmps3
  go_wp2_with (fail)
  refine (works_any w).mono ?_
  rintro e w1 ⟨rfl, b1⟩
  go_wp2_with (fail)
  go_ret
  exact ⟨rfl, b1⟩
set_option maxHeartbeats 8000000 in
theorem legal_walk (N : Int) (A : Option Addr) (n c : Nat) (l : List Ef) (w : World) (h : ES w A n l) : Calls Try.prog 3 #[.int .i64 N, .slice A n c] w fun e w' => e = .returned (.bool true) ∧ Below w.heap.size w w' := by
  by_cases hlen : 60 < n
  · exact legal60 A N n c hlen w
  obtain ⟨A', c', w1, hrun, hO⟩ := copy_any (c := c) h (by omega)
  have k1 := hO.bel
  have E1 := SL.keep h k1
  have hl := legal_any N A n c l w1 E1 (by omega)
  rw [legal_eq] at hl
  replace k1 := Lib.hid k1; replace hO := Lib.hid hO; replace E1 := Lib.hid E1
  go_enter Try.func3, Try.ntmps3
  go_wp2_with (fail)
  refine hl.mono ?_
  rintro e w2 ⟨rfl, b2⟩
  have k2 := k1.out.trans (b2.mono k1.out.size)
  have hr := rlegal_any N A n c l w2 (SL.keep h k2) (by omega)
  generalize (legalR N l).1 = v1 at *
  generalize (legalR N l).2.1 = v2 at *
  generalize (legalR N l).2.2 = v3 at *
  have hO2 := Lib.hid (hO.out.keep b2)
  replace k2 := Lib.hid k2
  clear hl hrun k1 hO E1 b2
  go_wp2_with (fail)
  refine hr.mono ?_
  rintro e w3 ⟨rfl, b3⟩
  have k3 := k2.out.trans (b3.mono k2.out.size)
  have hp := whole_any N A n c l w3 (SL.keep h k3) (by omega)
  rw [whole_eq] at hp
  have hO3 := Lib.hid (hO2.out.keep b3)
  replace k3 := Lib.hid k3
  clear hr k2 hO2 b3
  go_wp2_with (fail)
  refine hp.mono ?_
  rintro e w4 ⟨rfl, b4⟩
  have k4 := k3.out.trans (b4.mono k3.out.size)
  have hr := rwhole_any N A n c l w4 (SL.keep h k4) (by omega)
  generalize (wholeR N l).1 = u1 at *
  generalize (wholeR N l).2.1 = u2 at *
  generalize (wholeR N l).2.2 = u3 at *
  have hO4 := Lib.hid (hO3.out.keep b4)
  replace k4 := Lib.hid k4
  clear hp k3 hO3 b4
  go_wp2_with (fail)
  refine hr.mono ?_
  rintro e w5 ⟨rfl, b5⟩
  have k5 := k4.out.trans (b5.mono k4.out.size)
  have hp := next_any N A n c l w5 (SL.keep h k5) (by omega)
  rw [next_eq] at hp
  have hO5 := Lib.hid (hO4.out.keep b5)
  replace k5 := Lib.hid k5
  clear hr k4 hO4 b5
  go_wp2_with (fail)
  refine hp.mono ?_
  rintro e w6 ⟨A6, n6, c6, rfl, o6⟩
  have k6 := k5.out.trans (o6.bel.mono k5.out.size)
  have hr := rnext_any N A n c l w6 (SL.keep h k6) (by omega)
  have hnl := nextR_len N l
  generalize (nextR N l).2 = x2 at *
  generalize (nextR N l).1 = x1 at *
  have hO6 := Lib.hid (hO5.out.keep o6.bel)
  replace k6 := Lib.hid k6; replace o6 := Lib.hid o6
  clear hp k5 hO5
  go_wp2_with (fail)
  refine hr.mono ?_
  rintro e w7 ⟨A7, n7, c7, rfl, o7⟩
  have k7 := k6.out.trans (o7.bel.mono k6.out.size)
  have hO7 := Lib.hid (hO6.out.keep o7.bel)
  have o67 := o6.out.keep o7.bel
  have hs := same_any A6 A7 n6 c6 n7 c7 x1 x1 w7 o67.es o7.es (by have := o67.len; omega) (by have := o7.len; omega)
  rw [show decide (x1 = x1) = true from by simp] at hs
  replace k7 := Lib.hid k7; replace o7 := Lib.hid o7; replace o67 := Lib.hid o67
  clear hr k6 hO6
  go_wp2_with (fail)
  refine hs.mono ?_
  rintro e w8 ⟨rfl, b8⟩
  have k8 := k7.out.trans (b8.mono k7.out.size)
  have hO8 := hO7.out.keep b8
  have hs2 := same_any A A' n c n c' l l w8 (SL.keep h k8) hO8.es (by omega) (by omega)
  rw [show decide (l = l) = true from by simp] at hs2
  replace k8 := Lib.hid k8; replace hO8 := Lib.hid hO8
  clear hs k7 hO7 b8
  go_wp2_with (fail)
  refine hs2.mono ?_
  rintro e w9 ⟨rfl, b9⟩
  have k9 := Lib.hid (k8.out.trans (b9.mono k8.out.size))
  clear hs2 k8 hO8 b9
  go_wp2_with (fail)
  refine (works_any w9).mono ?_
  rintro e w10 ⟨rfl, b10⟩
  have k10 := Lib.hid (k9.out.trans (b10.mono k9.out.size))
  clear k9 b10
  go_wp2_with (fail)
  go_ret
  exact ⟨rfl, k10.out⟩
end Go.Proofs.Ythmkfbabacehnaa
