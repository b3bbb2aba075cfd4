/- BallotLists' walk. -/
import Derived.Test.YtflpnokhcaepfaaDoorWorks
import Derived.Test.YtflpnokhcaepfaaDoorRefM
import Derived.Deep.QuietTactic
import Derived.BigQuiet
namespace Go.Proofs.YtflpnokhcaepfaaDoor
open Go.RowKit
set_option linter.unusedSimpArgs false
set_option linter.unusedVariables false
set_option linter.unusedSectionVars false
set_option maxRecDepth 10000
attribute [local go_sem ↓] hideAppend
theorem ballElem : Elem Tryd.prog 47 23 2 16 := elem_of (z := .agg #[.int .i64 0, .int .i64 0]) Tryd.underlying47 (by kernel_rfl) rfl (by decide)
structure LS (w : World) (A A' : Option Addr) (n : Nat) (l : List (Int × Int)) (W : World) : Prop where
  bel : Below w.heap.size w W
  one : BS W A n l
  two : BS W A' n l
theorem LS.keep {w W W' : World} {A A' : Option Addr} {n : Nat} {l : List (Int × Int)} (h : LS w A A' n l W) (hb : Below W.heap.size W W') : LS w A A' n l W' := ⟨h.bel.trans (hb.mono h.bel.size), SL.keep h.one hb, SL.keep h.two hb⟩
set_option maxHeartbeats 8000000 in
theorem lists_walk (A : Option Addr) (n c : Nat) (l : List (Int × Int)) (hn : n ≤ 70368744177664) (w : World) (hL : Ldr w) (h : BS w A n l) : Calls Tryd.prog 10 #[.slice A n c] w fun e w' => e = .returned (.bool true) ∧ Below w.heap.size w w' := by
  by_cases hlen : 300 < n
  · go_enter Tryd.func10, Tryd.ntmps10
    go_wp2_with (fail)
    refine (works_any _ hL).mono ?_
    rintro e w1 ⟨rfl, b1⟩
    go_wp2_with (fail)
    go_ret
    exact ⟨rfl, b1⟩
  have hbw := (Below.refl _ w).alloc (Nat.le_refl _) (.cells #[] 23)
  have hown0 : (w.alloc (.cells #[] 23)).ownsRow w.heap.size 23 2 (.slice (some ⟨w.heap.size, 0, none⟩) 0 0) 0 (flat benc []) :=
    ⟨rfl, .inr ⟨w.heap.size, 0, #[], rfl, Nat.le_refl _, hpNew w _, Nat.le_refl _, Nat.zero_le _, rfl, rfl⟩⟩
  obtain ⟨A', c', w1, hrun, hcap, hown, hgr, hat⟩ := append_sl ballElem benc_len benc_one (ty := 47) (d := c) hown0 (by simp) (SL.keep h hbw) (by omega) (by omega)
  rw [Nat.zero_add, List.nil_append] at hown
  rw [Nat.zero_add] at hrun
  have bel1 : Below w.heap.size w w1 := hbw.trans (below_of_grown hgr (by simp) (fun g hg => by simp [rowOf] at hg; omega))
  have hS : LS w A A' n l w1 := ⟨bel1, SL.keep h bel1, SL.of_own benc_len hown h.1⟩
  have hx : ∀ k, k < n → ∃ x, l[k]? = some x := fun k hk => ⟨_, List.getElem?_eq_getElem (by rw [h.1]; exact hk)⟩
  replace hS := Lib.hid hS; replace hx := Lib.hid hx
  clear hown hgr hat hown0 hbw bel1
  go_enter Tryd.func10, Tryd.ntmps10
  go_wp2_with (fail)
  refine (max_any A n c l _ hS.out.one hn).mono ?_
  rintro e w2 ⟨rfl, b2⟩
  have hS2 := Lib.hid (hS.out.keep b2)
  clear b2 hS hrun
  go_wp2_with (fail)
  refine (rmax_any A n c l _ hS2.out.one hn).mono ?_
  rintro e w3 ⟨rfl, b3⟩
  have hS3 := Lib.hid (hS2.out.keep b3)
  clear b3 hS2
  generalize mx l = z at *
  go_wp2_with (fail)
  go_loopw [4] (fun i wr => ∃ k : Nat, k ≤ n ∧ i = .int .i64 k ∧ LS w A A' n l wr) (fun i _ => n - (intOf i).toNat)
  case atStart => exact ⟨0, by omega, rfl, hS3.out⟩
  case round =>
    clear hS3
    obtain ⟨k, hk, rfl, hS⟩ := hrel
    by_cases hlt : k < n
    · obtain ⟨b, o, x, rfl, hbl, hxk, e0, e1⟩ := BS.at_ hS.one hlt
      obtain ⟨b', o', x', rfl, hbl', hxk', e0', e1'⟩ := BS.at_ hS.two hlt
      rw [hxk] at hxk'
      injection hxk' with hxk'
      subst hxk'
      clear hxk
      replace hS := Lib.hid hS
      have k0 : (0 : Int) ≤ k := by omega
      go_wp2_with (fail)
      go_quiet (fail)
      go_wp2_with (fail)
      exact ⟨⟨k + 1, by omega, by go_num, hS.out.keep (below_drewN (Below.refl _ _) _)⟩, by simp [intOf]; omega⟩
    · replace hS := Lib.hid hS
      go_wp2_with (fail)
      refine (works_any _ (hL.keep hS.out.bel)).mono ?_
      rintro e w9 ⟨rfl, b9⟩
      go_wp2_with (fail)
      go_ret
      exact ⟨rfl, hS.out.bel.trans (b9.mono hS.out.bel.size)⟩
end Go.Proofs.YtflpnokhcaepfaaDoor
