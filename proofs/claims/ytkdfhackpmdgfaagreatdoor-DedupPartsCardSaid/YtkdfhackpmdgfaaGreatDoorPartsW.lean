/- Ranges that are taken one after the other: the walk. -/
import Derived.Test.YtkdfhackpmdgfaaGreatDoorPartP
import Derived.Test.YtkdfhackpmdgfaaGreatDoorSortB
import Derived.Test.YtkdfhackpmdgfaaGreatDoorConc
import Derived.Test.YtkdfhackpmdgfaaGreatDoorOrdS
import Derived.Test.YtkdfhackpmdgfaaGreatDoorFill
import Derived.Test.YtkdfhackpmdgfaaGreatDoorWorks
import Derived.Test.YtkdfhackpmdgfaaGreatDoorEqE
import Derived.Test.YtkdfhackpmdgfaaGreatDoorCopy
import Derived.Test.YtkdfhackpmdgfaaGreatDoorTake
import Derived.Test.YtkdfhackpmdgfaaGreatDoorAll
import Derived.Test.YtkdfhackpmdgfaaGreatDoorTakP
import Derived.Deep.RegionHeld3
namespace Go.Proofs.YtkdfhackpmdgfaaGreatDoor
open Go.RowKit Go.Shelf
set_option linter.unusedSimpArgs false
set_option linter.unusedVariables false
set_option linter.unusedSectionVars false
set_option maxRecDepth 10000
theorem SLchg {w w' : World} {A : Option Addr} {n : Nat} {l : List Ef} {S : Nat → Prop} (h : ES w A n l) (hc : Chg S w w') (hr : 0 < n → ∀ g, rowOf A = some g → ¬ S g) : ES w' A n l :=
  ⟨h.1, fun hn => by
    obtain ⟨b, o, e, hl, hc2⟩ := h.2 hn
    refine ⟨b, o, e, Nat.lt_of_lt_of_le hl hc.size, fun i x hx j u hu => (World.cell?_of_block (w := w) (a := ⟨b, _, none⟩) (hc.block b hl fun e2 => ?_)).trans (hc2 i x hx j u hu)⟩
    exact hr hn b (by rw [e]; rfl) e2⟩
theorem letB_ne (i : Nat) : letB i ≠ noText := by
  intro h
  have := congrArg ByteArray.size h
  exact absurd this (by decide : ¬ (1 = 0))
theorem letB_lt : ∀ i : Nat, i < 26 → ∀ j : Nat, j < 26 → i < j → lessB (letB i) (letB j) = true := by decide +kernel
theorem taken_len {g : Rg} (P : List En) : (takeO g P).length ≤ P.length := by
  unfold takeO; split
  · rw [List.length_map]; exact List.length_filter_le _ _
  · simp
set_option maxHeartbeats 64000000 in
theorem parts_walk {A : Option Addr} {n c : Nat} {ms : List Mo} (a b cc : Int) (ha : 0 ≤ a ∧ a ≤ 255) (hb : 0 ≤ b ∧ b ≤ 255) (hcc : 0 ≤ cc ∧ cc ≤ 255) (w : World) (hA : MS w A n ms) (hm : ∀ m ∈ ms, okM m) (hc : n ≤ c) (hn : n ≤ 140737488355328) : Calls Tryz.prog 3 #[.slice A n c, .int .u8 a, .int .u8 b, .int .u8 cc] w fun e w' => e = .returned (.bool true) ∧ Below w.heap.size w w' := by
  have epa : a.tmod 26 = a % 26 := Int.tmod_eq_emod_of_nonneg ha.1
  have fpa : IntKind.u8.wrap (97 + a % 26) = 97 + a % 26 := by simp [IntKind.wrap, IntKind.signed, IntKind.bits]; omega
  have epb : b.tmod 26 = b % 26 := Int.tmod_eq_emod_of_nonneg hb.1
  have fpb : IntKind.u8.wrap (97 + b % 26) = 97 + b % 26 := by simp [IntKind.wrap, IntKind.signed, IntKind.bits]; omega
  have epc : cc.tmod 26 = cc % 26 := Int.tmod_eq_emod_of_nonneg hcc.1
  have fpc : IntKind.u8.wrap (97 + cc % 26) = 97 + cc % 26 := by simp [IntKind.wrap, IntKind.signed, IntKind.bits]; omega
  have hfi := filled_any (size := 200) w hA hm hc hn (by omega) (by omega)
  clear hA hm
  go_enter Tryz.func3, Tryz.ntmps3
  go_wp2_with (fail)
  refine hfi.mono ?_
  rintro e w1 ⟨D, BB, P, Q, rfl, T1, -, -, -, -⟩
  clear hfi
  obtain ⟨A0, c0', ht0⟩ := T1.tab
  have hok0 := Lib.hid T1.ok
  have hord := Lib.hid T1.ord
  have kx := Lib.hid T1.bel
  have hw1 := T1.le
  have hD := ht0.lt
  have hP0 := Lib.hid ht0.le
  have hR := ht0.rowLt
  have bb := (Below.refl _ w1).alloc (Nat.le_refl _) (.cells #[.int .u8 (97 + a % 26), .int .u8 (97 + b % 26), .int .u8 (97 + cc % 26)] 5)
  have hg := hpNew w1 (.cells #[.int .u8 (97 + a % 26), .int .u8 (97 + b % 26), .int .u8 (97 + cc % 26)] 5)
  have hst := sort3 _ _ _ _ 3 _ hg
  have ht1 := ht0.below bb
  have kx1 := kx.out.trans (bb.mono kx.out.size)
  have hsz1 : (w1.alloc (.cells #[.int .u8 (97 + a % 26), .int .u8 (97 + b % 26), .int .u8 (97 + cc % 26)] 5)).heap.size = w1.heap.size + 1 := by simp
  replace ht0 := Lib.hid ht0; replace ht1 := Lib.hid ht1; replace kx1 := Lib.hid kx1; replace hg := Lib.hid hg; replace hsz1 := Lib.hid hsz1; replace hR := Lib.hid hR
  clear T1 bb
  go_wp2_with (fail)
  refine hst.mono ?_
  rintro e w2 ⟨rfl, hch, x, y, z, hs, hb⟩
  clear hst
  have ht2 := Lib.hid (ht1.out.chg hch (fun k q e => by subst e; rcases q with q | q; (omega); have := (hR.out _ q).2; omega))
  have kx2 := Lib.hid (hch.belowAfter kx1.out kx1.out.size (fun k hk e => by subst e; omega))
  have hw2 : w1.heap.size + 1 ≤ w2.heap.size := by have := hch.size; have := hsz1.out; omega
  clear hch ht0 ht1 kx kx1 hg hsz1
  obtain ⟨hxy, hyz, hx, hy, hz⟩ := hs
  have bx : 97 ≤ x ∧ x ≤ 122 := by omega
  have by' : 97 ≤ y ∧ y ≤ 122 := by omega
  have bz : 97 ≤ z ∧ z ≤ 122 := by omega
  clear hx hy hz epa epb epc fpa fpb fpc
  obtain ⟨i, hi⟩ : ∃ i : Nat, x = ((97 + i : Nat) : Int) := ⟨(x - 97).toNat, by omega⟩
  obtain ⟨j, hj⟩ : ∃ j : Nat, y = ((97 + j : Nat) : Int) := ⟨(y - 97).toNat, by omega⟩
  obtain ⟨k, hk⟩ : ∃ k : Nat, z = ((97 + k : Nat) : Int) := ⟨(z - 97).toNat, by omega⟩
  obtain ⟨g, hgg⟩ : ∃ g, g = w1.heap.size := ⟨_, rfl⟩
  rw [← hgg] at hb hw2
  simp only [← hgg]
  replace hb := Lib.hid hb
  have hSv : ∀ W' : World, W'.heap[g]? = some (.cells #[.int .u8 x, .int .u8 y, .int .u8 z] 5 (0, 0)) → (fun W' : World => W'.cell? ⟨g, 0, none⟩ = some (.int .u8 x) ∧ W'.cell? ⟨g, 1, none⟩ = some (.int .u8 y) ∧ W'.cell? ⟨g, 2, none⟩ = some (.int .u8 z)) W' := by
    intro W' h
    exact ⟨blkC h 0, blkC h 1, blkC h 2⟩
  replace hSv := Lib.hid hSv
  replace hgg := Lib.hid hgg; replace hi := Lib.hid hi; replace hj := Lib.hid hj; replace hk := Lib.hid hk
  have hworks := fun V => works_any V
  have kd := Lib.hid (kx2.out.trans ((Below.refl w2.heap.size w2).drew.mono kx2.out.size))
  by_cases h1 : x = y
  · have q1 : (x == y) = true := by simp [h1]
    replace h1 := Lib.hid h1
    clear hxy hyz bx by' bz
    go_wp2_with (fail)
    refine wp_region_held_drew (S := (fun W' : World => W'.cell? ⟨g, 0, none⟩ = some (.int .u8 x) ∧ W'.cell? ⟨g, 1, none⟩ = some (.int .u8 y) ∧ W'.cell? ⟨g, 2, none⟩ = some (.int .u8 z))) (by kernel_rfl) ?_ (fun hH => ?_)
    · exact hSv.out _ hb.out
    refine wpAnyH_take (i := 0) (v := ?_) rfl (by kernel_rfl) (by kernel_rfl) (by kernel_rfl) (fun _ _ _ h => h) (Or.inl ⟨by rfl, by intro w hSw; go_simp; first | done | with_reducible rfl⟩) hH ?_
    simp only [List.getElem_toArray, List.getElem_cons_succ, List.getElem_cons_zero, Act.put, List.setIfInBounds_toArray, List.set_cons_zero, List.set_cons_succ]
    refine wpAnyH_take (i := 1) (v := ?_) rfl (by kernel_rfl) (by kernel_rfl) (by kernel_rfl) (fun _ _ _ h => h) (Or.inl ⟨by rfl, by intro w hSw; go_simp; first | done | with_reducible rfl⟩) hH ?_
    simp only [List.getElem_toArray, List.getElem_cons_succ, List.getElem_cons_zero, Act.put, List.setIfInBounds_toArray, List.set_cons_zero, List.set_cons_succ]
    refine wpAnyH_take (i := 2) (v := ?_) rfl (by kernel_rfl) (by kernel_rfl) (by kernel_rfl) (fun _ _ _ h => h) (Or.inl ⟨by rfl, by intro w hSw; obtain ⟨s0, s1, s2⟩ := hSw; go_simp; first | done | with_reducible rfl⟩) hH ?_
    simp only [List.getElem_toArray, List.getElem_cons_succ, List.getElem_cons_zero, Act.put, List.setIfInBounds_toArray, List.set_cons_zero, List.set_cons_succ]
    refine wpAnyH_take (i := 3) (v := ?_) rfl (by kernel_rfl) (by kernel_rfl) (by kernel_rfl) (fun _ _ _ h => h) (Or.inl ⟨by rfl, by intro w hSw; go_simp; first | done | with_reducible rfl⟩) hH ?_
    simp only [List.getElem_toArray, List.getElem_cons_succ, List.getElem_cons_zero, Act.put, List.setIfInBounds_toArray, List.set_cons_zero, List.set_cons_succ]
    refine wpAnyH_take (i := 4) (v := ?_) rfl (by kernel_rfl) (by kernel_rfl) (by kernel_rfl) (fun _ _ _ h => h) (Or.inl ⟨by rfl, by intro w hSw; go_simp; first | done | with_reducible rfl⟩) hH ?_
    simp only [List.getElem_toArray, List.getElem_cons_succ, List.getElem_cons_zero, Act.put, List.setIfInBounds_toArray, List.set_cons_zero, List.set_cons_succ]
    refine wpAnyH_take (i := 5) (v := ?_) rfl (by kernel_rfl) (by kernel_rfl) (by kernel_rfl) (fun _ _ _ h => h) (Or.inl ⟨by rfl, by intro w hSw; obtain ⟨s0, s1, s2⟩ := hSw; go_simp; first | done | with_reducible rfl⟩) hH ?_
    simp only [List.getElem_toArray, List.getElem_cons_succ, List.getElem_cons_zero, Act.put, List.setIfInBounds_toArray, List.set_cons_zero, List.set_cons_succ]
    refine wpAnyH_take (i := 6) (v := ?_) rfl (by kernel_rfl) (by kernel_rfl) (by kernel_rfl) (fun _ _ _ h => h) (Or.inl ⟨by rfl, by intro w hSw; go_simp; first | done | with_reducible rfl⟩) hH ?_
    simp only [List.getElem_toArray, List.getElem_cons_succ, List.getElem_cons_zero, Act.put, List.setIfInBounds_toArray, List.set_cons_zero, List.set_cons_succ]
    refine wpAnyH_take (i := 7) (v := ?_) rfl (by kernel_rfl) (by kernel_rfl) (by kernel_rfl) (fun _ _ _ h => h) (Or.inl ⟨by rfl, by intro w hSw; go_simp; first | done | with_reducible rfl⟩) hH ?_
    simp only [List.getElem_toArray, List.getElem_cons_succ, List.getElem_cons_zero, Act.put, List.setIfInBounds_toArray, List.set_cons_zero, List.set_cons_succ]
    refine wpAnyH_take (i := 8) (v := undef) rfl (by kernel_rfl) (by kernel_rfl) (by kernel_rfl) (fun _ _ _ h => h) (Or.inr ⟨by rfl, rfl⟩) hH ?_
    simp only [List.getElem_toArray, List.getElem_cons_succ, List.getElem_cons_zero, Act.put, List.setIfInBounds_toArray, List.set_cons_zero, List.set_cons_succ]
    refine wpAnyH_take (i := 9) (v := undef) rfl (by kernel_rfl) (by kernel_rfl) (by kernel_rfl) (fun _ _ _ h => h) (Or.inr ⟨by rfl, rfl⟩) hH ?_
    simp only [List.getElem_toArray, List.getElem_cons_succ, List.getElem_cons_zero, Act.put, List.setIfInBounds_toArray, List.set_cons_zero, List.set_cons_succ]
    refine wpAnyH_take (i := 10) (v := undef) rfl (by kernel_rfl) (by kernel_rfl) (by kernel_rfl) (fun _ _ _ h => h) (Or.inr ⟨by rfl, rfl⟩) hH ?_
    simp only [List.getElem_toArray, List.getElem_cons_succ, List.getElem_cons_zero, Act.put, List.setIfInBounds_toArray, List.set_cons_zero, List.set_cons_succ]
    refine wpAnyH_take (i := 11) (v := undef) rfl (by kernel_rfl) (by kernel_rfl) (by kernel_rfl) (fun _ _ _ h => h) (Or.inr ⟨by rfl, rfl⟩) hH ?_
    simp only [List.getElem_toArray, List.getElem_cons_succ, List.getElem_cons_zero, Act.put, List.setIfInBounds_toArray, List.set_cons_zero, List.set_cons_succ]
    refine wpAnyH_take (i := 12) (v := undef) rfl (by kernel_rfl) (by kernel_rfl) (by kernel_rfl) (fun _ _ _ h => h) (Or.inr ⟨by rfl, rfl⟩) hH ?_
    simp only [List.getElem_toArray, List.getElem_cons_succ, List.getElem_cons_zero, Act.put, List.setIfInBounds_toArray, List.set_cons_zero, List.set_cons_succ]
    refine wpAnyH_take (i := 13) (v := undef) rfl (by kernel_rfl) (by kernel_rfl) (by kernel_rfl) (fun _ _ _ h => h) (Or.inr ⟨by rfl, rfl⟩) hH ?_
    simp only [List.getElem_toArray, List.getElem_cons_succ, List.getElem_cons_zero, Act.put, List.setIfInBounds_toArray, List.set_cons_zero, List.set_cons_succ]
    refine wpAnyH_take (i := 14) (v := undef) rfl (by kernel_rfl) (by kernel_rfl) (by kernel_rfl) (fun _ _ _ h => h) (Or.inr ⟨by rfl, rfl⟩) hH ?_
    simp only [List.getElem_toArray, List.getElem_cons_succ, List.getElem_cons_zero, Act.put, List.setIfInBounds_toArray, List.set_cons_zero, List.set_cons_succ]
    refine wpAnyH_take (i := 15) (v := ?_) rfl (by kernel_rfl) (by kernel_rfl) (by kernel_rfl) (fun _ _ _ h => h) (Or.inl ⟨by rfl, by intro w hSw; go_simp; first | done | with_reducible rfl⟩) hH ?_
    simp only [List.getElem_toArray, List.getElem_cons_succ, List.getElem_cons_zero, Act.put, List.setIfInBounds_toArray, List.set_cons_zero, List.set_cons_succ]
    refine wpAnyH_done (by kernel_rfl) ?_ _
    clear hH
    go_wp2_with (fail)
    refine (hworks _).mono ?_
    rintro e W3 ⟨rfl, b3⟩
    have kf := Lib.hid (kd.out.trans (b3.mono kd.out.size))
    clear b3
    go_wp2_with (fail)
    go_ret
    exact ⟨rfl, kf.out⟩
  by_cases h2 : y = z
  · have q1 : (x == y) = false := by simp [h1]
    have q2 : (y == z) = true := by simp [h2]
    replace h2 := Lib.hid h2
    clear hxy hyz bx by' bz
    go_wp2_with (fail)
    refine wp_region_held_drew (S := (fun W' : World => W'.cell? ⟨g, 0, none⟩ = some (.int .u8 x) ∧ W'.cell? ⟨g, 1, none⟩ = some (.int .u8 y) ∧ W'.cell? ⟨g, 2, none⟩ = some (.int .u8 z))) (by kernel_rfl) ?_ (fun hH => ?_)
    · exact hSv.out _ hb.out
    refine wpAnyH_take (i := 0) (v := ?_) rfl (by kernel_rfl) (by kernel_rfl) (by kernel_rfl) (fun _ _ _ h => h) (Or.inl ⟨by rfl, by intro w hSw; go_simp; first | done | with_reducible rfl⟩) hH ?_
    simp only [List.getElem_toArray, List.getElem_cons_succ, List.getElem_cons_zero, Act.put, List.setIfInBounds_toArray, List.set_cons_zero, List.set_cons_succ]
    refine wpAnyH_take (i := 1) (v := ?_) rfl (by kernel_rfl) (by kernel_rfl) (by kernel_rfl) (fun _ _ _ h => h) (Or.inl ⟨by rfl, by intro w hSw; go_simp; first | done | with_reducible rfl⟩) hH ?_
    simp only [List.getElem_toArray, List.getElem_cons_succ, List.getElem_cons_zero, Act.put, List.setIfInBounds_toArray, List.set_cons_zero, List.set_cons_succ]
    refine wpAnyH_take (i := 2) (v := ?_) rfl (by kernel_rfl) (by kernel_rfl) (by kernel_rfl) (fun _ _ _ h => h) (Or.inl ⟨by rfl, by intro w hSw; obtain ⟨s0, s1, s2⟩ := hSw; go_simp; first | done | with_reducible rfl⟩) hH ?_
    simp only [List.getElem_toArray, List.getElem_cons_succ, List.getElem_cons_zero, Act.put, List.setIfInBounds_toArray, List.set_cons_zero, List.set_cons_succ]
    refine wpAnyH_take (i := 3) (v := ?_) rfl (by kernel_rfl) (by kernel_rfl) (by kernel_rfl) (fun _ _ _ h => h) (Or.inl ⟨by rfl, by intro w hSw; go_simp; first | done | with_reducible rfl⟩) hH ?_
    simp only [List.getElem_toArray, List.getElem_cons_succ, List.getElem_cons_zero, Act.put, List.setIfInBounds_toArray, List.set_cons_zero, List.set_cons_succ]
    refine wpAnyH_take (i := 4) (v := ?_) rfl (by kernel_rfl) (by kernel_rfl) (by kernel_rfl) (fun _ _ _ h => h) (Or.inl ⟨by rfl, by intro w hSw; go_simp; first | done | with_reducible rfl⟩) hH ?_
    simp only [List.getElem_toArray, List.getElem_cons_succ, List.getElem_cons_zero, Act.put, List.setIfInBounds_toArray, List.set_cons_zero, List.set_cons_succ]
    refine wpAnyH_take (i := 5) (v := ?_) rfl (by kernel_rfl) (by kernel_rfl) (by kernel_rfl) (fun _ _ _ h => h) (Or.inl ⟨by rfl, by intro w hSw; obtain ⟨s0, s1, s2⟩ := hSw; go_simp; first | done | with_reducible rfl⟩) hH ?_
    simp only [List.getElem_toArray, List.getElem_cons_succ, List.getElem_cons_zero, Act.put, List.setIfInBounds_toArray, List.set_cons_zero, List.set_cons_succ]
    refine wpAnyH_take (i := 6) (v := ?_) rfl (by kernel_rfl) (by kernel_rfl) (by kernel_rfl) (fun _ _ _ h => h) (Or.inl ⟨by rfl, by intro w hSw; go_simp; first | done | with_reducible rfl⟩) hH ?_
    simp only [List.getElem_toArray, List.getElem_cons_succ, List.getElem_cons_zero, Act.put, List.setIfInBounds_toArray, List.set_cons_zero, List.set_cons_succ]
    refine wpAnyH_take (i := 7) (v := ?_) rfl (by kernel_rfl) (by kernel_rfl) (by kernel_rfl) (fun _ _ _ h => h) (Or.inl ⟨by rfl, by intro w hSw; go_simp; first | done | with_reducible rfl⟩) hH ?_
    simp only [List.getElem_toArray, List.getElem_cons_succ, List.getElem_cons_zero, Act.put, List.setIfInBounds_toArray, List.set_cons_zero, List.set_cons_succ]
    refine wpAnyH_take (i := 8) (v := ?_) rfl (by kernel_rfl) (by kernel_rfl) (by kernel_rfl) (fun _ _ _ h => h) (Or.inl ⟨by rfl, by intro w hSw; go_simp; first | done | with_reducible rfl⟩) hH ?_
    simp only [List.getElem_toArray, List.getElem_cons_succ, List.getElem_cons_zero, Act.put, List.setIfInBounds_toArray, List.set_cons_zero, List.set_cons_succ]
    refine wpAnyH_take (i := 9) (v := ?_) rfl (by kernel_rfl) (by kernel_rfl) (by kernel_rfl) (fun _ _ _ h => h) (Or.inl ⟨by rfl, by intro w hSw; go_simp; first | done | with_reducible rfl⟩) hH ?_
    simp only [List.getElem_toArray, List.getElem_cons_succ, List.getElem_cons_zero, Act.put, List.setIfInBounds_toArray, List.set_cons_zero, List.set_cons_succ]
    refine wpAnyH_take (i := 10) (v := ?_) rfl (by kernel_rfl) (by kernel_rfl) (by kernel_rfl) (fun _ _ _ h => h) (Or.inl ⟨by rfl, by intro w hSw; obtain ⟨s0, s1, s2⟩ := hSw; go_simp; first | done | with_reducible rfl⟩) hH ?_
    simp only [List.getElem_toArray, List.getElem_cons_succ, List.getElem_cons_zero, Act.put, List.setIfInBounds_toArray, List.set_cons_zero, List.set_cons_succ]
    refine wpAnyH_take (i := 11) (v := ?_) rfl (by kernel_rfl) (by kernel_rfl) (by kernel_rfl) (fun _ _ _ h => h) (Or.inl ⟨by rfl, by intro w hSw; go_simp; first | done | with_reducible rfl⟩) hH ?_
    simp only [List.getElem_toArray, List.getElem_cons_succ, List.getElem_cons_zero, Act.put, List.setIfInBounds_toArray, List.set_cons_zero, List.set_cons_succ]
    refine wpAnyH_take (i := 12) (v := ?_) rfl (by kernel_rfl) (by kernel_rfl) (by kernel_rfl) (fun _ _ _ h => h) (Or.inl ⟨by rfl, by intro w hSw; go_simp; first | done | with_reducible rfl⟩) hH ?_
    simp only [List.getElem_toArray, List.getElem_cons_succ, List.getElem_cons_zero, Act.put, List.setIfInBounds_toArray, List.set_cons_zero, List.set_cons_succ]
    refine wpAnyH_take (i := 13) (v := ?_) rfl (by kernel_rfl) (by kernel_rfl) (by kernel_rfl) (fun _ _ _ h => h) (Or.inl ⟨by rfl, by intro w hSw; obtain ⟨s0, s1, s2⟩ := hSw; go_simp; first | done | with_reducible rfl⟩) hH ?_
    simp only [List.getElem_toArray, List.getElem_cons_succ, List.getElem_cons_zero, Act.put, List.setIfInBounds_toArray, List.set_cons_zero, List.set_cons_succ]
    refine wpAnyH_take (i := 14) (v := ?_) rfl (by kernel_rfl) (by kernel_rfl) (by kernel_rfl) (fun _ _ _ h => h) (Or.inl ⟨by rfl, by intro w hSw; go_simp; first | done | with_reducible rfl⟩) hH ?_
    simp only [List.getElem_toArray, List.getElem_cons_succ, List.getElem_cons_zero, Act.put, List.setIfInBounds_toArray, List.set_cons_zero, List.set_cons_succ]
    refine wpAnyH_take (i := 15) (v := ?_) rfl (by kernel_rfl) (by kernel_rfl) (by kernel_rfl) (fun _ _ _ h => h) (Or.inl ⟨by rfl, by intro w hSw; go_simp; first | done | with_reducible rfl⟩) hH ?_
    simp only [List.getElem_toArray, List.getElem_cons_succ, List.getElem_cons_zero, Act.put, List.setIfInBounds_toArray, List.set_cons_zero, List.set_cons_succ]
    refine wpAnyH_done (by kernel_rfl) ?_ _
    clear hH
    go_wp2_with (fail)
    refine (hworks _).mono ?_
    rintro e W3 ⟨rfl, b3⟩
    have kf := Lib.hid (kd.out.trans (b3.mono kd.out.size))
    clear b3
    go_wp2_with (fail)
    go_ret
    exact ⟨rfl, kf.out⟩
  have q1 : (x == y) = false := by simp [h1]
  have q2 : (y == z) = false := by simp [h2]
  have l1 : i < j := by have := hi.out; have := hj.out; omega
  have l2 : j < k := by have := hj.out; have := hk.out; omega
  have l3 : k < 26 := by have := hk.out; omega
  obtain ⟨sa, hsa⟩ : ∃ s, s = letB i := ⟨_, rfl⟩
  have ssa : sa.size ≤ 140737488355328 := by rw [hsa]; show 1 ≤ _; omega
  have hvsa : ∀ (V : World) (d : Nat), V.heap[g]? = some (.cells #[.int .u8 x, .int .u8 y, .int .u8 z] 5 (0, 0)) → (convert 27 9 (.slice (some ⟨g, 0, none⟩) 1 d)).run Tryz.prog V = .ok (.string sa) V := by
    intro V d h
    rw [hsa]
    have := run_convert_bytes_arg V 27 5 Tryz.underlying27 Tryz.underlying5 g 0 1 d [x] rfl (fun i' hi' => by (have hz : i' = 0 := (by omega)); subst hz; exact blkC h 0) 9 Tryz.underlying9
    rw [this, hi.out]
    rfl
  obtain ⟨sb, hsb⟩ : ∃ s, s = letB j := ⟨_, rfl⟩
  have ssb : sb.size ≤ 140737488355328 := by rw [hsb]; show 1 ≤ _; omega
  have hvsb : ∀ (V : World) (d : Nat), V.heap[g]? = some (.cells #[.int .u8 x, .int .u8 y, .int .u8 z] 5 (0, 0)) → (convert 27 9 (.slice (some ⟨g, 1, none⟩) 1 d)).run Tryz.prog V = .ok (.string sb) V := by
    intro V d h
    rw [hsb]
    have := run_convert_bytes_arg V 27 5 Tryz.underlying27 Tryz.underlying5 g 1 1 d [y] rfl (fun i' hi' => by (have hz : i' = 0 := (by omega)); subst hz; exact blkC h 1) 9 Tryz.underlying9
    rw [this, hj.out]
    rfl
  obtain ⟨sc, hsc⟩ : ∃ s, s = letB k := ⟨_, rfl⟩
  have ssc : sc.size ≤ 140737488355328 := by rw [hsc]; show 1 ≤ _; omega
  have hvsc : ∀ (V : World) (d : Nat), V.heap[g]? = some (.cells #[.int .u8 x, .int .u8 y, .int .u8 z] 5 (0, 0)) → (convert 27 9 (.slice (some ⟨g, 2, none⟩) 1 d)).run Tryz.prog V = .ok (.string sc) V := by
    intro V d h
    rw [hsc]
    have := run_convert_bytes_arg V 27 5 Tryz.underlying27 Tryz.underlying5 g 2 1 d [z] rfl (fun i' hi' => by (have hz : i' = 0 := (by omega)); subst hz; exact blkC h 2) 9 Tryz.underlying9
    rw [this, hk.out]
    rfl
  have hcut : Cut3 sa sb sc := by
    refine ⟨?_, ?_, ?_, ?_, ?_, ?_, ?_⟩
    · rw [hsb]; exact letB_ne j
    · rw [hsc]; exact letB_ne k
    · rw [hsa, hsb]; exact letB_lt _ (by omega) _ (by omega) (by omega)
    · rw [hsb, hsc]; exact letB_lt _ (by omega) _ (by omega) (by omega)
    · rw [hsa, hsb]; exact rangeB _ (by omega) _ (by omega) (by omega)
    · rw [hsb, hsc]; exact rangeB _ (by omega) _ (by omega) (by omega)
    · rw [hsa, hsc]; exact rangeB _ (by omega) _ (by omega) (by omega)
  replace hsa := Lib.hid hsa
  replace hsb := Lib.hid hsb
  replace hsc := Lib.hid hsc
  replace hvsa := Lib.hid hvsa
  replace hvsb := Lib.hid hvsb
  replace hvsc := Lib.hid hvsc
  replace hcut := Lib.hid hcut
  replace h1 := Lib.hid h1
  replace h2 := Lib.hid h2
  clear hxy hyz bx by' bz l1 l2 l3
  go_upto_region 6 with (fail)
  go_cut [64] from 49 (fun v wx => v = .bool false ∧ wx = w2.drew)
  case first =>
    refine wp_region_held_drew (S := (fun W' : World => W'.cell? ⟨g, 0, none⟩ = some (.int .u8 x) ∧ W'.cell? ⟨g, 1, none⟩ = some (.int .u8 y) ∧ W'.cell? ⟨g, 2, none⟩ = some (.int .u8 z))) (by kernel_rfl) ?_ (fun hH => ?_)
    · exact hSv.out _ hb.out
    refine wpAnyH_take (i := 0) (v := ?_) rfl (by kernel_rfl) (by kernel_rfl) (by kernel_rfl) (fun _ _ _ h => h) (Or.inl ⟨by rfl, by intro w hSw; go_simp; first | done | with_reducible rfl⟩) hH ?_
    simp only [List.getElem_toArray, List.getElem_cons_succ, List.getElem_cons_zero, Act.put, List.setIfInBounds_toArray, List.set_cons_zero, List.set_cons_succ]
    refine wpAnyH_take (i := 1) (v := ?_) rfl (by kernel_rfl) (by kernel_rfl) (by kernel_rfl) (fun _ _ _ h => h) (Or.inl ⟨by rfl, by intro w hSw; go_simp; first | done | with_reducible rfl⟩) hH ?_
    simp only [List.getElem_toArray, List.getElem_cons_succ, List.getElem_cons_zero, Act.put, List.setIfInBounds_toArray, List.set_cons_zero, List.set_cons_succ]
    refine wpAnyH_take (i := 2) (v := ?_) rfl (by kernel_rfl) (by kernel_rfl) (by kernel_rfl) (fun _ _ _ h => h) (Or.inl ⟨by rfl, by intro w hSw; obtain ⟨s0, s1, s2⟩ := hSw; go_simp; first | done | with_reducible rfl⟩) hH ?_
    simp only [List.getElem_toArray, List.getElem_cons_succ, List.getElem_cons_zero, Act.put, List.setIfInBounds_toArray, List.set_cons_zero, List.set_cons_succ]
    refine wpAnyH_take (i := 3) (v := ?_) rfl (by kernel_rfl) (by kernel_rfl) (by kernel_rfl) (fun _ _ _ h => h) (Or.inl ⟨by rfl, by intro w hSw; go_simp; first | done | with_reducible rfl⟩) hH ?_
    simp only [List.getElem_toArray, List.getElem_cons_succ, List.getElem_cons_zero, Act.put, List.setIfInBounds_toArray, List.set_cons_zero, List.set_cons_succ]
    refine wpAnyH_take (i := 4) (v := ?_) rfl (by kernel_rfl) (by kernel_rfl) (by kernel_rfl) (fun _ _ _ h => h) (Or.inl ⟨by rfl, by intro w hSw; go_simp; first | done | with_reducible rfl⟩) hH ?_
    simp only [List.getElem_toArray, List.getElem_cons_succ, List.getElem_cons_zero, Act.put, List.setIfInBounds_toArray, List.set_cons_zero, List.set_cons_succ]
    refine wpAnyH_take (i := 5) (v := ?_) rfl (by kernel_rfl) (by kernel_rfl) (by kernel_rfl) (fun _ _ _ h => h) (Or.inl ⟨by rfl, by intro w hSw; obtain ⟨s0, s1, s2⟩ := hSw; go_simp; first | done | with_reducible rfl⟩) hH ?_
    simp only [List.getElem_toArray, List.getElem_cons_succ, List.getElem_cons_zero, Act.put, List.setIfInBounds_toArray, List.set_cons_zero, List.set_cons_succ]
    refine wpAnyH_take (i := 6) (v := ?_) rfl (by kernel_rfl) (by kernel_rfl) (by kernel_rfl) (fun _ _ _ h => h) (Or.inl ⟨by rfl, by intro w hSw; go_simp; first | done | with_reducible rfl⟩) hH ?_
    simp only [List.getElem_toArray, List.getElem_cons_succ, List.getElem_cons_zero, Act.put, List.setIfInBounds_toArray, List.set_cons_zero, List.set_cons_succ]
    refine wpAnyH_take (i := 7) (v := ?_) rfl (by kernel_rfl) (by kernel_rfl) (by kernel_rfl) (fun _ _ _ h => h) (Or.inl ⟨by rfl, by intro w hSw; go_simp; first | done | with_reducible rfl⟩) hH ?_
    simp only [List.getElem_toArray, List.getElem_cons_succ, List.getElem_cons_zero, Act.put, List.setIfInBounds_toArray, List.set_cons_zero, List.set_cons_succ]
    refine wpAnyH_take (i := 8) (v := ?_) rfl (by kernel_rfl) (by kernel_rfl) (by kernel_rfl) (fun _ _ _ h => h) (Or.inl ⟨by rfl, by intro w hSw; go_simp; first | done | with_reducible rfl⟩) hH ?_
    simp only [List.getElem_toArray, List.getElem_cons_succ, List.getElem_cons_zero, Act.put, List.setIfInBounds_toArray, List.set_cons_zero, List.set_cons_succ]
    refine wpAnyH_take (i := 9) (v := ?_) rfl (by kernel_rfl) (by kernel_rfl) (by kernel_rfl) (fun _ _ _ h => h) (Or.inl ⟨by rfl, by intro w hSw; go_simp; first | done | with_reducible rfl⟩) hH ?_
    simp only [List.getElem_toArray, List.getElem_cons_succ, List.getElem_cons_zero, Act.put, List.setIfInBounds_toArray, List.set_cons_zero, List.set_cons_succ]
    refine wpAnyH_take (i := 10) (v := ?_) rfl (by kernel_rfl) (by kernel_rfl) (by kernel_rfl) (fun _ _ _ h => h) (Or.inl ⟨by rfl, by intro w hSw; obtain ⟨s0, s1, s2⟩ := hSw; go_simp; first | done | with_reducible rfl⟩) hH ?_
    simp only [List.getElem_toArray, List.getElem_cons_succ, List.getElem_cons_zero, Act.put, List.setIfInBounds_toArray, List.set_cons_zero, List.set_cons_succ]
    refine wpAnyH_take (i := 11) (v := ?_) rfl (by kernel_rfl) (by kernel_rfl) (by kernel_rfl) (fun _ _ _ h => h) (Or.inl ⟨by rfl, by intro w hSw; go_simp; first | done | with_reducible rfl⟩) hH ?_
    simp only [List.getElem_toArray, List.getElem_cons_succ, List.getElem_cons_zero, Act.put, List.setIfInBounds_toArray, List.set_cons_zero, List.set_cons_succ]
    refine wpAnyH_take (i := 12) (v := ?_) rfl (by kernel_rfl) (by kernel_rfl) (by kernel_rfl) (fun _ _ _ h => h) (Or.inl ⟨by rfl, by intro w hSw; go_simp; first | done | with_reducible rfl⟩) hH ?_
    simp only [List.getElem_toArray, List.getElem_cons_succ, List.getElem_cons_zero, Act.put, List.setIfInBounds_toArray, List.set_cons_zero, List.set_cons_succ]
    refine wpAnyH_take (i := 13) (v := ?_) rfl (by kernel_rfl) (by kernel_rfl) (by kernel_rfl) (fun _ _ _ h => h) (Or.inl ⟨by rfl, by intro w hSw; obtain ⟨s0, s1, s2⟩ := hSw; go_simp; first | done | with_reducible rfl⟩) hH ?_
    simp only [List.getElem_toArray, List.getElem_cons_succ, List.getElem_cons_zero, Act.put, List.setIfInBounds_toArray, List.set_cons_zero, List.set_cons_succ]
    refine wpAnyH_take (i := 14) (v := ?_) rfl (by kernel_rfl) (by kernel_rfl) (by kernel_rfl) (fun _ _ _ h => h) (Or.inl ⟨by rfl, by intro w hSw; go_simp; first | done | with_reducible rfl⟩) hH ?_
    simp only [List.getElem_toArray, List.getElem_cons_succ, List.getElem_cons_zero, Act.put, List.setIfInBounds_toArray, List.set_cons_zero, List.set_cons_succ]
    refine wpAnyH_take (i := 15) (v := ?_) rfl (by kernel_rfl) (by kernel_rfl) (by kernel_rfl) (fun _ _ _ h => h) (Or.inl ⟨by rfl, by intro w hSw; go_simp; first | done | with_reducible rfl⟩) hH ?_
    simp only [List.getElem_toArray, List.getElem_cons_succ, List.getElem_cons_zero, Act.put, List.setIfInBounds_toArray, List.set_cons_zero, List.set_cons_succ]
    refine wpAnyH_done (by kernel_rfl) ?_ _
    clear hH
    go_wp2_with (fail)
    go_meet
    exact ⟨rfl, rfl⟩
  case rest =>
    obtain ⟨hv1, hv2⟩ := hcut
    subst hv1; subst hv2
    have hSw8 : ∀ W' : World, W'.heap[g]? = some (.cells #[.int .u8 x, .int .u8 y, .int .u8 z] 5 (0, 0)) → (fun W' : World => (convert 27 9 (.slice (some ⟨g, 0, none⟩) 1 3)).run Tryz.prog W' = .ok (.string sa) W' ∧ (convert 27 9 (.slice (some ⟨g, 1, none⟩) 1 2)).run Tryz.prog W' = .ok (.string sb) W' ∧ (convert 27 9 (.slice (some ⟨g, 2, none⟩) 1 1)).run Tryz.prog W' = .ok (.string sc) W') W' := fun W' h => ⟨hvsa.out _ _ h, hvsb.out _ _ h, hvsc.out _ _ h⟩
    replace hSw8 := Lib.hid hSw8
    clear hSv
    obtain ⟨V, hV⟩ : ∃ V, V = w2.drew := ⟨_, rfl⟩
    rw [← hV]
    have hb3 : V.heap[g]? = some (.cells #[.int .u8 x, .int .u8 y, .int .u8 z] 5 (0, 0)) := by rw [hV]; exact hb.out
    have hbV : Below w2.heap.size w2 V := by rw [hV]; exact (Below.refl _ _).drew
    have kxV := Lib.hid (kx2.out.trans (hbV.mono kx2.out.size))
    have htV := Lib.hid (ht2.out.below hbV)
    have hsV := Lib.hid hbV.size
    clear hV hbV kd hb ht2 kx2
    have hb := Lib.hid hb3
    clear hb3
    go_upto_region 8 with (fail)
    go_cut [13, 14] from 66 (fun a b wx => ∃ g1 g2, a = .pointer (some ⟨g1, 0, none⟩) ∧ b = .pointer (some ⟨g2, 0, none⟩) ∧ wx.heap[g1]? = some (.cells #[.string sa, .string sb] 31 (0, 0)) ∧ wx.heap[g2]? = some (.cells #[.string sb, .string sc] 31 (0, 0)) ∧ Below V.heap.size V wx)
    case first =>
      have lg := Lib.hid (blkX hb.out)
      have hbD := Lib.hid ((Below.refl V.heap.size V).drew)
      have hSx : ∀ W', Below V.heap.size V W' → (fun W' : World => (convert 27 9 (.slice (some ⟨g, 0, none⟩) 1 3)).run Tryz.prog W' = .ok (.string sa) W' ∧ (convert 27 9 (.slice (some ⟨g, 1, none⟩) 1 2)).run Tryz.prog W' = .ok (.string sb) W' ∧ (convert 27 9 (.slice (some ⟨g, 2, none⟩) 1 1)).run Tryz.prog W' = .ok (.string sc) W') W' := fun W' h => hSw8.out W' ((h.block g lg.out).trans hb.out)
      replace hSx := Lib.hid hSx
      skip
      refine wp_region_held_drew (S := (fun W' : World => (convert 27 9 (.slice (some ⟨g, 0, none⟩) 1 3)).run Tryz.prog W' = .ok (.string sa) W' ∧ (convert 27 9 (.slice (some ⟨g, 1, none⟩) 1 2)).run Tryz.prog W' = .ok (.string sb) W' ∧ (convert 27 9 (.slice (some ⟨g, 2, none⟩) 1 1)).run Tryz.prog W' = .ok (.string sc) W')) (by kernel_rfl) ?_ (fun hH => ?_)
      · exact hSx.out _ hbD.out
      generalize V.drew = Vc at *
      refine wpAnyH_take (i := 0) (v := ?_) rfl (by kernel_rfl) (by kernel_rfl) (by kernel_rfl) (fun _ _ _ h => h) (Or.inl ⟨by rfl, by intro w hSw; go_simp; first | done | with_reducible rfl⟩) hH ?_
      simp only [List.getElem_toArray, List.getElem_cons_succ, List.getElem_cons_zero, Act.put, List.setIfInBounds_toArray, List.set_cons_zero, List.set_cons_succ]
      refine wpAnyH_take (i := 1) (v := ?_) rfl (by kernel_rfl) (by kernel_rfl) (by kernel_rfl) (fun _ _ _ h => h) (Or.inl ⟨by rfl, by intro w hSw; go_simp; first | done | with_reducible rfl⟩) hH ?_
      simp only [List.getElem_toArray, List.getElem_cons_succ, List.getElem_cons_zero, Act.put, List.setIfInBounds_toArray, List.set_cons_zero, List.set_cons_succ]
      refine wpAnyH_take (i := 2) (v := ?_) rfl (by kernel_rfl) (by kernel_rfl) (by kernel_rfl) (fun _ _ _ h => h) (Or.inl ⟨by rfl, by intro w hSw; obtain ⟨s0, s1, s2⟩ := hSw; go_simp; first | done | with_reducible rfl⟩) hH ?_
      simp only [List.getElem_toArray, List.getElem_cons_succ, List.getElem_cons_zero, Act.put, List.setIfInBounds_toArray, List.set_cons_zero, List.set_cons_succ]
      refine wpAnyH_take (i := 3) (v := ?_) rfl (by kernel_rfl) (by kernel_rfl) (by kernel_rfl) (fun _ _ _ h => h) (Or.inl ⟨by rfl, by intro w hSw; go_simp; first | done | with_reducible rfl⟩) hH ?_
      simp only [List.getElem_toArray, List.getElem_cons_succ, List.getElem_cons_zero, Act.put, List.setIfInBounds_toArray, List.set_cons_zero, List.set_cons_succ]
      refine wpAnyH_take (i := 4) (v := ?_) rfl (by kernel_rfl) (by kernel_rfl) (by kernel_rfl) (fun _ _ _ h => h) (Or.inl ⟨by rfl, by intro w hSw; go_simp; first | done | with_reducible rfl⟩) hH ?_
      simp only [List.getElem_toArray, List.getElem_cons_succ, List.getElem_cons_zero, Act.put, List.setIfInBounds_toArray, List.set_cons_zero, List.set_cons_succ]
      refine wpAnyH_take (i := 5) (v := ?_) rfl (by kernel_rfl) (by kernel_rfl) (by kernel_rfl) (fun _ _ _ h => h) (Or.inl ⟨by rfl, by intro w hSw; obtain ⟨s0, s1, s2⟩ := hSw; go_simp; first | done | with_reducible rfl⟩) hH ?_
      simp only [List.getElem_toArray, List.getElem_cons_succ, List.getElem_cons_zero, Act.put, List.setIfInBounds_toArray, List.set_cons_zero, List.set_cons_succ]
      refine wpAnyH_take (i := 6) (v := ?_) rfl (by kernel_rfl) (by kernel_rfl) (by kernel_rfl) (fun _ _ _ h => h) (Or.inl ⟨by rfl, by intro w hSw; go_simp; first | done | with_reducible rfl⟩) hH ?_
      simp only [List.getElem_toArray, List.getElem_cons_succ, List.getElem_cons_zero, Act.put, List.setIfInBounds_toArray, List.set_cons_zero, List.set_cons_succ]
      refine wpAnyH_take (i := 7) (v := ?_) rfl (by kernel_rfl) (by kernel_rfl) (by kernel_rfl) (fun _ _ _ h => h) (Or.inl ⟨by rfl, by intro w hSw; go_simp; first | done | with_reducible rfl⟩) hH ?_
      simp only [List.getElem_toArray, List.getElem_cons_succ, List.getElem_cons_zero, Act.put, List.setIfInBounds_toArray, List.set_cons_zero, List.set_cons_succ]
      refine wpAnyH_take (i := 8) (v := ?_) rfl (by kernel_rfl) (by kernel_rfl) (by kernel_rfl) (fun _ _ _ h => h) (Or.inl ⟨by rfl, by intro w hSw; go_simp; first | done | with_reducible rfl⟩) hH ?_
      simp only [List.getElem_toArray, List.getElem_cons_succ, List.getElem_cons_zero, Act.put, List.setIfInBounds_toArray, List.set_cons_zero, List.set_cons_succ]
      refine wpAnyH_take (i := 9) (v := ?_) rfl (by kernel_rfl) (by kernel_rfl) (by kernel_rfl) (fun _ _ _ h => h) (Or.inl ⟨by rfl, by intro w hSw; obtain ⟨s0, s1, s2⟩ := hSw; go_simp; first | done | with_reducible rfl⟩) hH ?_
      simp only [List.getElem_toArray, List.getElem_cons_succ, List.getElem_cons_zero, Act.put, List.setIfInBounds_toArray, List.set_cons_zero, List.set_cons_succ]
      refine wpAnyH_take (i := 10) (v := ?_) rfl (by kernel_rfl) (by kernel_rfl) (by kernel_rfl) (fun _ _ _ h => h) (Or.inl ⟨by rfl, by intro w hSw; go_simp; first | done | with_reducible rfl⟩) hH ?_
      simp only [List.getElem_toArray, List.getElem_cons_succ, List.getElem_cons_zero, Act.put, List.setIfInBounds_toArray, List.set_cons_zero, List.set_cons_succ]
      refine wpAnyH_take (i := 11) (v := ?_) rfl (by kernel_rfl) (by kernel_rfl) (by kernel_rfl) (fun _ _ _ h => h) (Or.inl ⟨by rfl, by intro w hSw; go_simp; first | done | with_reducible rfl⟩) hH ?_
      simp only [List.getElem_toArray, List.getElem_cons_succ, List.getElem_cons_zero, Act.put, List.setIfInBounds_toArray, List.set_cons_zero, List.set_cons_succ]
      refine wpAnyH_take (i := 12) (v := ?_) rfl (by kernel_rfl) (by kernel_rfl) (by kernel_rfl) (fun _ _ _ h => h) (Or.inl ⟨by rfl, by intro w hSw; obtain ⟨s0, s1, s2⟩ := hSw; go_simp; first | done | with_reducible rfl⟩) hH ?_
      simp only [List.getElem_toArray, List.getElem_cons_succ, List.getElem_cons_zero, Act.put, List.setIfInBounds_toArray, List.set_cons_zero, List.set_cons_succ]
      refine wpAnyH_take (i := 13) (v := ?_) rfl (by kernel_rfl) (by kernel_rfl) (by kernel_rfl) (fun _ _ _ h => h) (Or.inl ⟨by rfl, by intro w hSw; go_simp; first | done | with_reducible rfl⟩) hH ?_
      simp only [List.getElem_toArray, List.getElem_cons_succ, List.getElem_cons_zero, Act.put, List.setIfInBounds_toArray, List.set_cons_zero, List.set_cons_succ]
      refine wpAnyH_ready (rs := [14, 15]) (by kernel_rfl) (by simp) ?_
      refine AllReadyH.cons rfl (fun K hK => ?_) ?_
      · clear hH
        have hbE := Lib.hid (hbD.out.alloc hbD.out.size (.cells #[.string ⟨#[]⟩, .string ⟨#[]⟩] 31))
        have n1 := Lib.hid (hpNew Vc (.cells #[.string ⟨#[]⟩, .string ⟨#[]⟩] 31))
        have m1 := Lib.hid hbD.out.size
        go_simp
        obtain ⟨q1, hq1⟩ : ∃ x, x = Vc.heap.size := ⟨_, rfl⟩
        rewrite [← hq1] at n1 m1
        simp only [← hq1]
        have hlt1 := Lib.hid (blkX n1.out)
        generalize Vc.alloc (.cells #[.string ⟨#[]⟩, .string ⟨#[]⟩] 31) = Vn at *
        clear hbD; have hbD := hbE; clear hbE
        replace hq1 := Lib.hid hq1
        refine hK.out _ _ (hSx.out _ hbD.out) (fun hH => ?_)
        clear hK K
        skip
        obtain ⟨Vc, hVc⟩ : ∃ x, x = Vn := ⟨_, rfl⟩
        subst hVc
        refine wpAnyH_ready (rs := [15]) (by kernel_rfl) (by simp) ?_
        refine AllReadyH.cons rfl (fun K hK => ?_) ?_
        · clear hH
          have hbE := Lib.hid (hbD.out.alloc hbD.out.size (.cells #[.string ⟨#[]⟩, .string ⟨#[]⟩] 31))
          have n2 := Lib.hid (hpNew Vc (.cells #[.string ⟨#[]⟩, .string ⟨#[]⟩] 31))
          have m2 := Lib.hid hbD.out.size
          have n1' := Lib.hid ((hpOld (w := Vc) (.cells #[.string ⟨#[]⟩, .string ⟨#[]⟩] 31) (blkX n1.out)).trans n1.out)
          clear n1; have n1 := n1'; clear n1'
          skip
          go_simp
          obtain ⟨q2, hq2⟩ : ∃ x, x = Vc.heap.size := ⟨_, rfl⟩
          rewrite [← hq2] at n2 m2
          simp only [← hq2]
          have hne : Hid (q1 ≠ q2) := Lib.hid (by have := hlt1.out; omega)
          have hlt2 := Lib.hid (blkX n2.out)
          generalize Vc.alloc (.cells #[.string ⟨#[]⟩, .string ⟨#[]⟩] 31) = Vn at *
          clear hbD; have hbD := hbE; clear hbE
          replace hq2 := Lib.hid hq2
          refine hK.out _ _ (hSx.out _ hbD.out) (fun hH => ?_)
          clear hK K
          skip
          obtain ⟨Vc, hVc⟩ : ∃ x, x = Vn := ⟨_, rfl⟩
          subst hVc
          refine wpAnyH_ready (rs := [16]) (by kernel_rfl) (by simp) ?_
          refine AllReadyH.cons rfl (fun K hK => ?_) ?_
          · clear hH
            have f0 := blkF n1.out
            have x0 : Vc.cell? ⟨q1, 0, none⟩ = some (.string ⟨#[]⟩) := blkC n1.out 0
            have x1 : Vc.cell? ⟨q1, 1, none⟩ = some (.string ⟨#[]⟩) := blkC n1.out 1
            have x2 := blkX n1.out
            have n1' : ((Vc.setCell ⟨q1, 0, none⟩ (.string sa)).setCell ⟨q1, 1, none⟩ (.string sb)).heap[q1]? = some (.cells #[.string sa, .string sb] 31 (0, 0)) := by
              have := hpSet (i := 1) (v := .string sb) (hpSet (i := 0) (v := .string sa) n1.out)
              rw [this]; rfl
            have n2' : ((Vc.setCell ⟨q1, 0, none⟩ (.string sa)).setCell ⟨q1, 1, none⟩ (.string sb)).heap[q2]? = some (.cells #[.string ⟨#[]⟩, .string ⟨#[]⟩] 31 (0, 0)) := (hpFar (fun e => hne.out e.symm)).trans ((hpFar (fun e => hne.out e.symm)).trans n2.out)
            have hbE : Below V.heap.size V ((Vc.setCell ⟨q1, 0, none⟩ (.string sa)).setCell ⟨q1, 1, none⟩ (.string sb)) := (hbD.out.setCell (p := ⟨q1, 0, none⟩) m1.out _).setCell (p := ⟨q1, 1, none⟩) m1.out _
            replace n1' := Lib.hid n1'; replace hbE := Lib.hid hbE
            replace n2' := Lib.hid n2'
            go_simp
            clear x0 x1 x2 f0
            generalize ((Vc.setCell ⟨q1, 0, none⟩ (.string sa)).setCell ⟨q1, 1, none⟩ (.string sb)) = Vn at *
            clear n1 hbD; have n1 := n1'; have hbD := hbE; clear n1' hbE
            clear n2; have n2 := n2'; clear n2'
            refine hK.out _ _ (hSx.out _ hbD.out) (fun hH => ?_)
            clear hK K
            obtain ⟨Vc, hVc⟩ : ∃ x, x = Vn := ⟨_, rfl⟩
            subst hVc
            refine wpAnyH_ready (rs := [17]) (by kernel_rfl) (by simp) ?_
            refine AllReadyH.cons rfl (fun K hK => ?_) ?_
            · clear hH
              have f0 := blkF n2.out
              have x0 : Vc.cell? ⟨q2, 0, none⟩ = some (.string ⟨#[]⟩) := blkC n2.out 0
              have x1 : Vc.cell? ⟨q2, 1, none⟩ = some (.string ⟨#[]⟩) := blkC n2.out 1
              have x2 := blkX n2.out
              have n2' : ((Vc.setCell ⟨q2, 0, none⟩ (.string sb)).setCell ⟨q2, 1, none⟩ (.string sc)).heap[q2]? = some (.cells #[.string sb, .string sc] 31 (0, 0)) := by
                have := hpSet (i := 1) (v := .string sc) (hpSet (i := 0) (v := .string sb) n2.out)
                rw [this]; rfl
              have n1' : ((Vc.setCell ⟨q2, 0, none⟩ (.string sb)).setCell ⟨q2, 1, none⟩ (.string sc)).heap[q1]? = some (.cells #[.string sa, .string sb] 31 (0, 0)) := (hpFar (hne.out)).trans ((hpFar (hne.out)).trans n1.out)
              have hbE : Below V.heap.size V ((Vc.setCell ⟨q2, 0, none⟩ (.string sb)).setCell ⟨q2, 1, none⟩ (.string sc)) := (hbD.out.setCell (p := ⟨q2, 0, none⟩) m2.out _).setCell (p := ⟨q2, 1, none⟩) m2.out _
              replace n2' := Lib.hid n2'; replace hbE := Lib.hid hbE
              replace n1' := Lib.hid n1'
              go_simp
              clear x0 x1 x2 f0
              generalize ((Vc.setCell ⟨q2, 0, none⟩ (.string sb)).setCell ⟨q2, 1, none⟩ (.string sc)) = Vn at *
              clear n2 hbD; have n2 := n2'; have hbD := hbE; clear n2' hbE
              clear n1; have n1 := n1'; clear n1'
              refine hK.out _ _ (hSx.out _ hbD.out) (fun hH => ?_)
              clear hK K
              obtain ⟨Vc, hVc⟩ : ∃ x, x = Vn := ⟨_, rfl⟩
              subst hVc
              refine wpAnyH_done (by kernel_rfl) ?_ _
              clear hH
              go_wp2_with (fail)
              go_meet
              exact ⟨q1, q2, rfl, rfl, n1.out, n2.out, hbD.out⟩
            exact AllReadyH.nil
          exact AllReadyH.nil
        exact AllReadyH.nil
      refine AllReadyH.cons rfl (fun K hK => ?_) ?_
      · clear hH
        have hbE := Lib.hid (hbD.out.alloc hbD.out.size (.cells #[.string ⟨#[]⟩, .string ⟨#[]⟩] 31))
        have n2 := Lib.hid (hpNew Vc (.cells #[.string ⟨#[]⟩, .string ⟨#[]⟩] 31))
        have m2 := Lib.hid hbD.out.size
        go_simp
        obtain ⟨q2, hq2⟩ : ∃ x, x = Vc.heap.size := ⟨_, rfl⟩
        rewrite [← hq2] at n2 m2
        simp only [← hq2]
        have hlt2 := Lib.hid (blkX n2.out)
        generalize Vc.alloc (.cells #[.string ⟨#[]⟩, .string ⟨#[]⟩] 31) = Vn at *
        clear hbD; have hbD := hbE; clear hbE
        replace hq2 := Lib.hid hq2
        refine hK.out _ _ (hSx.out _ hbD.out) (fun hH => ?_)
        clear hK K
        skip
        obtain ⟨Vc, hVc⟩ : ∃ x, x = Vn := ⟨_, rfl⟩
        subst hVc
        refine wpAnyH_ready (rs := [14]) (by kernel_rfl) (by simp) ?_
        refine AllReadyH.cons rfl (fun K hK => ?_) ?_
        · clear hH
          have hbE := Lib.hid (hbD.out.alloc hbD.out.size (.cells #[.string ⟨#[]⟩, .string ⟨#[]⟩] 31))
          have n1 := Lib.hid (hpNew Vc (.cells #[.string ⟨#[]⟩, .string ⟨#[]⟩] 31))
          have m1 := Lib.hid hbD.out.size
          have n2' := Lib.hid ((hpOld (w := Vc) (.cells #[.string ⟨#[]⟩, .string ⟨#[]⟩] 31) (blkX n2.out)).trans n2.out)
          clear n2; have n2 := n2'; clear n2'
          skip
          go_simp
          obtain ⟨q1, hq1⟩ : ∃ x, x = Vc.heap.size := ⟨_, rfl⟩
          rewrite [← hq1] at n1 m1
          simp only [← hq1]
          have hne : Hid (q1 ≠ q2) := Lib.hid (by have := hlt2.out; omega)
          have hlt1 := Lib.hid (blkX n1.out)
          generalize Vc.alloc (.cells #[.string ⟨#[]⟩, .string ⟨#[]⟩] 31) = Vn at *
          clear hbD; have hbD := hbE; clear hbE
          replace hq1 := Lib.hid hq1
          refine hK.out _ _ (hSx.out _ hbD.out) (fun hH => ?_)
          clear hK K
          skip
          obtain ⟨Vc, hVc⟩ : ∃ x, x = Vn := ⟨_, rfl⟩
          subst hVc
          refine wpAnyH_ready (rs := [16]) (by kernel_rfl) (by simp) ?_
          refine AllReadyH.cons rfl (fun K hK => ?_) ?_
          · clear hH
            have f0 := blkF n1.out
            have x0 : Vc.cell? ⟨q1, 0, none⟩ = some (.string ⟨#[]⟩) := blkC n1.out 0
            have x1 : Vc.cell? ⟨q1, 1, none⟩ = some (.string ⟨#[]⟩) := blkC n1.out 1
            have x2 := blkX n1.out
            have n1' : ((Vc.setCell ⟨q1, 0, none⟩ (.string sa)).setCell ⟨q1, 1, none⟩ (.string sb)).heap[q1]? = some (.cells #[.string sa, .string sb] 31 (0, 0)) := by
              have := hpSet (i := 1) (v := .string sb) (hpSet (i := 0) (v := .string sa) n1.out)
              rw [this]; rfl
            have n2' : ((Vc.setCell ⟨q1, 0, none⟩ (.string sa)).setCell ⟨q1, 1, none⟩ (.string sb)).heap[q2]? = some (.cells #[.string ⟨#[]⟩, .string ⟨#[]⟩] 31 (0, 0)) := (hpFar (fun e => hne.out e.symm)).trans ((hpFar (fun e => hne.out e.symm)).trans n2.out)
            have hbE : Below V.heap.size V ((Vc.setCell ⟨q1, 0, none⟩ (.string sa)).setCell ⟨q1, 1, none⟩ (.string sb)) := (hbD.out.setCell (p := ⟨q1, 0, none⟩) m1.out _).setCell (p := ⟨q1, 1, none⟩) m1.out _
            replace n1' := Lib.hid n1'; replace hbE := Lib.hid hbE
            replace n2' := Lib.hid n2'
            go_simp
            clear x0 x1 x2 f0
            generalize ((Vc.setCell ⟨q1, 0, none⟩ (.string sa)).setCell ⟨q1, 1, none⟩ (.string sb)) = Vn at *
            clear n1 hbD; have n1 := n1'; have hbD := hbE; clear n1' hbE
            clear n2; have n2 := n2'; clear n2'
            refine hK.out _ _ (hSx.out _ hbD.out) (fun hH => ?_)
            clear hK K
            obtain ⟨Vc, hVc⟩ : ∃ x, x = Vn := ⟨_, rfl⟩
            subst hVc
            refine wpAnyH_ready (rs := [17]) (by kernel_rfl) (by simp) ?_
            refine AllReadyH.cons rfl (fun K hK => ?_) ?_
            · clear hH
              have f0 := blkF n2.out
              have x0 : Vc.cell? ⟨q2, 0, none⟩ = some (.string ⟨#[]⟩) := blkC n2.out 0
              have x1 : Vc.cell? ⟨q2, 1, none⟩ = some (.string ⟨#[]⟩) := blkC n2.out 1
              have x2 := blkX n2.out
              have n2' : ((Vc.setCell ⟨q2, 0, none⟩ (.string sb)).setCell ⟨q2, 1, none⟩ (.string sc)).heap[q2]? = some (.cells #[.string sb, .string sc] 31 (0, 0)) := by
                have := hpSet (i := 1) (v := .string sc) (hpSet (i := 0) (v := .string sb) n2.out)
                rw [this]; rfl
              have n1' : ((Vc.setCell ⟨q2, 0, none⟩ (.string sb)).setCell ⟨q2, 1, none⟩ (.string sc)).heap[q1]? = some (.cells #[.string sa, .string sb] 31 (0, 0)) := (hpFar (hne.out)).trans ((hpFar (hne.out)).trans n1.out)
              have hbE : Below V.heap.size V ((Vc.setCell ⟨q2, 0, none⟩ (.string sb)).setCell ⟨q2, 1, none⟩ (.string sc)) := (hbD.out.setCell (p := ⟨q2, 0, none⟩) m2.out _).setCell (p := ⟨q2, 1, none⟩) m2.out _
              replace n2' := Lib.hid n2'; replace hbE := Lib.hid hbE
              replace n1' := Lib.hid n1'
              go_simp
              clear x0 x1 x2 f0
              generalize ((Vc.setCell ⟨q2, 0, none⟩ (.string sb)).setCell ⟨q2, 1, none⟩ (.string sc)) = Vn at *
              clear n2 hbD; have n2 := n2'; have hbD := hbE; clear n2' hbE
              clear n1; have n1 := n1'; clear n1'
              refine hK.out _ _ (hSx.out _ hbD.out) (fun hH => ?_)
              clear hK K
              obtain ⟨Vc, hVc⟩ : ∃ x, x = Vn := ⟨_, rfl⟩
              subst hVc
              refine wpAnyH_done (by kernel_rfl) ?_ _
              clear hH
              go_wp2_with (fail)
              go_meet
              exact ⟨q1, q2, rfl, rfl, n1.out, n2.out, hbD.out⟩
            exact AllReadyH.nil
          exact AllReadyH.nil
        exact AllReadyH.nil
      exact AllReadyH.nil
    case rest =>
      obtain ⟨g1, g2, hv1, hv2, hr1, hr2, bV⟩ := hcut
      subst hv1; subst hv2
      have kx := Lib.hid (kxV.out.trans (bV.mono kxV.out.size))
      have ht := Lib.hid (htV.out.below bV)
      have hr1' := Lib.hid hr1; have hr2' := Lib.hid hr2
      generalize wc = Wc at *
      clear bV htV kxV hb hr1 hr2 hSw8 hvsa hvsb hvsc hsV
      have hg1 := hr1'; have hg2 := hr2'; clear hr1' hr2'
      have kc := Lib.hid (Nat.le_trans kx.out.size (Nat.le_refl _))
      have lhg1 := Lib.hid (blkX hg1.out); have lhg2 := Lib.hid (blkX hg2.out)
      have hcp := copy_any ht.out
      go_wp2_with (fail)
      refine hcp.mono ?_
      rintro e Wx ⟨Dx, Ax, cx, rfl, tn, b⟩
      clear hcp
      have lox' := Lib.hid (fun k (q : k = Dx ∨ rowOf Ax = some k) => show Wc.heap.size ≤ k from by rcases q with q | q; (have := tn.ge; omega); exact (tn.rowLt k q).1)
      have hix' := Lib.hid (fun k (q : k = Dx ∨ rowOf Ax = some k) => show k < Wx.heap.size from by rcases q with q | q; (have := tn.lt; omega); exact (tn.rowLt k q).2)
      have szx := Lib.hid b.size
      have kx_ := Lib.hid (kx.out.trans (b.mono kx.out.size))
      have ht_ := Lib.hid (ht.out.below b)
      have hg1_ := Lib.hid ((b.block _ (blkX hg1.out)).trans hg1.out)
      have hg2_ := Lib.hid ((b.block _ (blkX hg2.out)).trans hg2.out)
      clear kx hg1 hg2 ht
      have kx := kx_; have hg1 := hg1_; have hg2 := hg2_; have ht := ht_
      clear kx_ hg1_ hg2_ ht_
      replace tn := Lib.hid tn
      have htx := tn
      clear tn b
      have hcp := copy_any ht.out
      go_wp2_with (fail)
      refine hcp.mono ?_
      rintro e Wy ⟨Dy, Ay, cy, rfl, tn, b⟩
      clear hcp
      have loy' := Lib.hid (fun k (q : k = Dy ∨ rowOf Ay = some k) => show Wx.heap.size ≤ k from by rcases q with q | q; (have := tn.ge; omega); exact (tn.rowLt k q).1)
      have hiy' := Lib.hid (fun k (q : k = Dy ∨ rowOf Ay = some k) => show k < Wy.heap.size from by rcases q with q | q; (have := tn.lt; omega); exact (tn.rowLt k q).2)
      have szy := Lib.hid b.size
      have kx_ := Lib.hid (kx.out.trans (b.mono kx.out.size))
      have ht_ := Lib.hid (ht.out.below b)
      have htx_ := Lib.hid (htx.out.below b)
      have hg1_ := Lib.hid ((b.block _ (blkX hg1.out)).trans hg1.out)
      have hg2_ := Lib.hid ((b.block _ (blkX hg2.out)).trans hg2.out)
      clear kx hg1 hg2 ht htx
      have kx := kx_; have hg1 := hg1_; have hg2 := hg2_; have ht := ht_; have htx := htx_
      clear kx_ hg1_ hg2_ ht_ htx_
      replace tn := Lib.hid tn
      have hty := tn
      clear tn b
      have hcp := copy_any ht.out
      go_wp2_with (fail)
      refine hcp.mono ?_
      rintro e Wz ⟨Dz, Az, cz, rfl, tn, b⟩
      clear hcp
      have loz' := Lib.hid (fun k (q : k = Dz ∨ rowOf Az = some k) => show Wy.heap.size ≤ k from by rcases q with q | q; (have := tn.ge; omega); exact (tn.rowLt k q).1)
      have hiz' := Lib.hid (fun k (q : k = Dz ∨ rowOf Az = some k) => show k < Wz.heap.size from by rcases q with q | q; (have := tn.lt; omega); exact (tn.rowLt k q).2)
      have szz := Lib.hid b.size
      have kx_ := Lib.hid (kx.out.trans (b.mono kx.out.size))
      have ht_ := Lib.hid (ht.out.below b)
      have htx_ := Lib.hid (htx.out.below b)
      have hty_ := Lib.hid (hty.out.below b)
      have hg1_ := Lib.hid ((b.block _ (blkX hg1.out)).trans hg1.out)
      have hg2_ := Lib.hid ((b.block _ (blkX hg2.out)).trans hg2.out)
      clear kx hg1 hg2 ht htx hty
      have kx := kx_; have hg1 := hg1_; have hg2 := hg2_; have ht := ht_; have htx := htx_; have hty := hty_
      clear kx_ hg1_ hg2_ ht_ htx_ hty_
      replace tn := Lib.hid tn
      have htz := tn
      clear tn b
      have lox : Hid (∀ k, (k = Dx ∨ rowOf Ax = some k) → Wc.heap.size ≤ k) := Lib.hid (fun k q => by have := lox'.out k q;  omega)
      have loy : Hid (∀ k, (k = Dy ∨ rowOf Ay = some k) → Wc.heap.size ≤ k) := Lib.hid (fun k q => by have := loy'.out k q; have := szx.out; omega)
      have loz : Hid (∀ k, (k = Dz ∨ rowOf Az = some k) → Wc.heap.size ≤ k) := Lib.hid (fun k q => by have := loz'.out k q; have := szx.out; have := szy.out; omega)
      have hix : Hid (∀ k, (k = Dx ∨ rowOf Ax = some k) → k < Wz.heap.size) := Lib.hid (fun k q => by have := hix'.out k q; have := szy.out; have := szz.out; omega)
      have hiy : Hid (∀ k, (k = Dy ∨ rowOf Ay = some k) → k < Wz.heap.size) := Lib.hid (fun k q => by have := hiy'.out k q; have := szz.out; omega)
      have hiz : Hid (∀ k, (k = Dz ∨ rowOf Az = some k) → k < Wz.heap.size) := Lib.hid (fun k q => by have := hiz'.out k q;  omega)
      have apxy : Hid (∀ k, (k = Dx ∨ rowOf Ax = some k) → ¬ (k = Dy ∨ rowOf Ay = some k)) := Lib.hid (fun k q q' => by have := hix'.out k q; have := loy'.out k q'; omega)
      have apyx : Hid (∀ k, (k = Dy ∨ rowOf Ay = some k) → ¬ (k = Dx ∨ rowOf Ax = some k)) := Lib.hid (fun k q q' => by have := hix'.out k q'; have := loy'.out k q; omega)
      have apxz : Hid (∀ k, (k = Dx ∨ rowOf Ax = some k) → ¬ (k = Dz ∨ rowOf Az = some k)) := Lib.hid (fun k q q' => by have := hix'.out k q; have := loz'.out k q'; have := szy.out; omega)
      have apzx : Hid (∀ k, (k = Dz ∨ rowOf Az = some k) → ¬ (k = Dx ∨ rowOf Ax = some k)) := Lib.hid (fun k q q' => by have := hix'.out k q'; have := loz'.out k q; have := szy.out; omega)
      have apyz : Hid (∀ k, (k = Dy ∨ rowOf Ay = some k) → ¬ (k = Dz ∨ rowOf Az = some k)) := Lib.hid (fun k q q' => by have := hiy'.out k q; have := loz'.out k q'; omega)
      have apzy : Hid (∀ k, (k = Dz ∨ rowOf Az = some k) → ¬ (k = Dy ∨ rowOf Ay = some k)) := Lib.hid (fun k q q' => by have := hiy'.out k q'; have := loz'.out k q; omega)
      have swz : Hid (Wc.heap.size ≤ Wz.heap.size) := Lib.hid (by have := szx.out; have := szy.out; have := szz.out; omega)
      have s0 := Lib.hid (Nat.le_refl Wz.heap.size)
      clear lox' loy' loz' hix' hiy' hiz' szx szy szz ht
      have htk := take_any htx.out (P := P) (hok0.out) sa sb ssa ssb
      have p0 : Wz.cell? ⟨g1, 0, none⟩ = some (.string sa) := blkC hg1.out 0; have p1 : Wz.cell? ⟨g1, 1, none⟩ = some (.string sb) := blkC hg1.out 1; have p2 : Wz.cell? ⟨g2, 0, none⟩ = some (.string sb) := blkC hg2.out 0; have p3 : Wz.cell? ⟨g2, 1, none⟩ = some (.string sc) := blkC hg2.out 1; have p4 := blkX hg1.out; have p5 := blkX hg2.out
      go_wp2_with (fail)
      refine htk.mono ?_
      rintro e U1 ⟨Bp, mp, dp, rfl, hmp, hE, hB, tn, hmv⟩
      clear htk
      rw [takeC_ok' hcut.out.o1]
      clear p0 p1 p2 p3 p4 p5
      have hch := hmv.chg
      replace hmp := Lib.hid hmp
      have rp : Hid (∀ k, rowOf Bp = some k → Wz.heap.size ≤ k) := Lib.hid (fun k hk => Nat.le_trans s0.out (hB k hk))
      have kx_ := Lib.hid (Chg.belowAfter kx.out hch kx.out.size (fun k hk q => by have := lox.out k q; have := kc.out; omega))
      have hty_ := Lib.hid (hty.out.chg hch apyx.out)
      have htz_ := Lib.hid (htz.out.chg hch apzx.out)
      have hg1_ := Lib.hid ((hch.block _ (blkX hg1.out) (fun q => by have := lox.out _ q; have := lhg1.out; omega)).trans hg1.out)
      have hg2_ := Lib.hid ((hch.block _ (blkX hg2.out) (fun q => by have := lox.out _ q; have := lhg2.out; omega)).trans hg2.out)
      have s0_ := Lib.hid (Nat.le_trans s0.out hch.size)
      have htx_ := Lib.hid tn
      clear kx hg1 hg2 htx hty htz s0
      have kx := kx_; have hg1 := hg1_; have hg2 := hg2_; have htx := htx_; have hty := hty_; have htz := htz_; have s0 := s0_
      clear kx_ hg1_ hg2_ htx_ hty_ htz_ s0_
      have ep := Lib.hid hE
      clear hE hB tn hmv hch
      have htk := take_any htx.out (P := takeL (sa, sb) P) (ok_takeL (hok0.out)) sb sc ssb ssc
      have p0 : U1.cell? ⟨g1, 0, none⟩ = some (.string sa) := blkC hg1.out 0; have p1 : U1.cell? ⟨g1, 1, none⟩ = some (.string sb) := blkC hg1.out 1; have p2 : U1.cell? ⟨g2, 0, none⟩ = some (.string sb) := blkC hg2.out 0; have p3 : U1.cell? ⟨g2, 1, none⟩ = some (.string sc) := blkC hg2.out 1; have p4 := blkX hg1.out; have p5 := blkX hg2.out
      go_wp2_with (fail)
      refine htk.mono ?_
      rintro e U2 ⟨Bq, mq, dq, rfl, hmq, hE, hB, tn, hmv⟩
      clear htk
      rw [takeC_ok' hcut.out.o2]
      clear p0 p1 p2 p3 p4 p5
      have hch := hmv.chg
      replace hmq := Lib.hid hmq
      have rq : Hid (∀ k, rowOf Bq = some k → Wz.heap.size ≤ k) := Lib.hid (fun k hk => Nat.le_trans s0.out (hB k hk))
      have kx_ := Lib.hid (Chg.belowAfter kx.out hch kx.out.size (fun k hk q => by have := lox.out k q; have := kc.out; omega))
      have hty_ := Lib.hid (hty.out.chg hch apyx.out)
      have htz_ := Lib.hid (htz.out.chg hch apzx.out)
      have hg1_ := Lib.hid ((hch.block _ (blkX hg1.out) (fun q => by have := lox.out _ q; have := lhg1.out; omega)).trans hg1.out)
      have hg2_ := Lib.hid ((hch.block _ (blkX hg2.out) (fun q => by have := lox.out _ q; have := lhg2.out; omega)).trans hg2.out)
      have ep_ := Lib.hid (SLchg ep.out hch (fun _ k hk q => by have := hix.out _ q; have := rp.out k hk; omega))
      have s0_ := Lib.hid (Nat.le_trans s0.out hch.size)
      have htx_ := Lib.hid tn
      clear kx hg1 hg2 htx hty htz ep s0
      have kx := kx_; have hg1 := hg1_; have hg2 := hg2_; have htx := htx_; have hty := hty_; have htz := htz_; have ep := ep_; have s0 := s0_
      clear kx_ hg1_ hg2_ htx_ hty_ htz_ ep_ s0_
      have eq := Lib.hid hE
      clear hE hB tn hmv hch
      have htk := take_any hty.out (P := P) (hok0.out) sb sc ssb ssc
      have p0 : U2.cell? ⟨g1, 0, none⟩ = some (.string sa) := blkC hg1.out 0; have p1 : U2.cell? ⟨g1, 1, none⟩ = some (.string sb) := blkC hg1.out 1; have p2 : U2.cell? ⟨g2, 0, none⟩ = some (.string sb) := blkC hg2.out 0; have p3 : U2.cell? ⟨g2, 1, none⟩ = some (.string sc) := blkC hg2.out 1; have p4 := blkX hg1.out; have p5 := blkX hg2.out
      go_wp2_with (fail)
      refine htk.mono ?_
      rintro e U3 ⟨Br, mr, dr, rfl, hmr, hE, hB, tn, hmv⟩
      clear htk
      rw [takeC_ok' hcut.out.o2]
      clear p0 p1 p2 p3 p4 p5
      have hch := hmv.chg
      replace hmr := Lib.hid hmr
      have rr : Hid (∀ k, rowOf Br = some k → Wz.heap.size ≤ k) := Lib.hid (fun k hk => Nat.le_trans s0.out (hB k hk))
      have kx_ := Lib.hid (Chg.belowAfter kx.out hch kx.out.size (fun k hk q => by have := loy.out k q; have := kc.out; omega))
      have htx_ := Lib.hid (htx.out.chg hch apxy.out)
      have htz_ := Lib.hid (htz.out.chg hch apzy.out)
      have hg1_ := Lib.hid ((hch.block _ (blkX hg1.out) (fun q => by have := loy.out _ q; have := lhg1.out; omega)).trans hg1.out)
      have hg2_ := Lib.hid ((hch.block _ (blkX hg2.out) (fun q => by have := loy.out _ q; have := lhg2.out; omega)).trans hg2.out)
      have ep_ := Lib.hid (SLchg ep.out hch (fun _ k hk q => by have := hiy.out _ q; have := rp.out k hk; omega))
      have eq_ := Lib.hid (SLchg eq.out hch (fun _ k hk q => by have := hiy.out _ q; have := rq.out k hk; omega))
      have s0_ := Lib.hid (Nat.le_trans s0.out hch.size)
      have hty_ := Lib.hid tn
      clear kx hg1 hg2 htx hty htz ep eq s0
      have kx := kx_; have hg1 := hg1_; have hg2 := hg2_; have htx := htx_; have hty := hty_; have htz := htz_; have ep := ep_; have eq := eq_; have s0 := s0_
      clear kx_ hg1_ hg2_ htx_ hty_ htz_ ep_ eq_ s0_
      have er := Lib.hid hE
      clear hE hB tn hmv hch
      have htk := take_any hty.out (P := takeL (sb, sc) P) (ok_takeL (hok0.out)) sa sb ssa ssb
      have p0 : U3.cell? ⟨g1, 0, none⟩ = some (.string sa) := blkC hg1.out 0; have p1 : U3.cell? ⟨g1, 1, none⟩ = some (.string sb) := blkC hg1.out 1; have p2 : U3.cell? ⟨g2, 0, none⟩ = some (.string sb) := blkC hg2.out 0; have p3 : U3.cell? ⟨g2, 1, none⟩ = some (.string sc) := blkC hg2.out 1; have p4 := blkX hg1.out; have p5 := blkX hg2.out
      go_wp2_with (fail)
      refine htk.mono ?_
      rintro e U4 ⟨Bt, mt, dt, rfl, hmt, hE, hB, tn, hmv⟩
      clear htk
      rw [takeC_ok' hcut.out.o1]
      clear p0 p1 p2 p3 p4 p5
      have hch := hmv.chg
      replace hmt := Lib.hid hmt
      have rt : Hid (∀ k, rowOf Bt = some k → Wz.heap.size ≤ k) := Lib.hid (fun k hk => Nat.le_trans s0.out (hB k hk))
      have kx_ := Lib.hid (Chg.belowAfter kx.out hch kx.out.size (fun k hk q => by have := loy.out k q; have := kc.out; omega))
      have htx_ := Lib.hid (htx.out.chg hch apxy.out)
      have htz_ := Lib.hid (htz.out.chg hch apzy.out)
      have hg1_ := Lib.hid ((hch.block _ (blkX hg1.out) (fun q => by have := loy.out _ q; have := lhg1.out; omega)).trans hg1.out)
      have hg2_ := Lib.hid ((hch.block _ (blkX hg2.out) (fun q => by have := loy.out _ q; have := lhg2.out; omega)).trans hg2.out)
      have ep_ := Lib.hid (SLchg ep.out hch (fun _ k hk q => by have := hiy.out _ q; have := rp.out k hk; omega))
      have eq_ := Lib.hid (SLchg eq.out hch (fun _ k hk q => by have := hiy.out _ q; have := rq.out k hk; omega))
      have er_ := Lib.hid (SLchg er.out hch (fun _ k hk q => by have := hiy.out _ q; have := rr.out k hk; omega))
      have s0_ := Lib.hid (Nat.le_trans s0.out hch.size)
      have hty_ := Lib.hid tn
      clear kx hg1 hg2 htx hty htz ep eq er s0
      have kx := kx_; have hg1 := hg1_; have hg2 := hg2_; have htx := htx_; have hty := hty_; have htz := htz_; have ep := ep_; have eq := eq_; have er := er_; have s0 := s0_
      clear kx_ hg1_ hg2_ htx_ hty_ htz_ ep_ eq_ er_ s0_
      have et := Lib.hid hE
      clear hE hB tn hmv hch
      have htk := take_any htz.out (P := P) (hok0.out) sa sc ssa ssc
      have p0 : U4.cell? ⟨g1, 0, none⟩ = some (.string sa) := blkC hg1.out 0; have p1 : U4.cell? ⟨g1, 1, none⟩ = some (.string sb) := blkC hg1.out 1; have p2 : U4.cell? ⟨g2, 0, none⟩ = some (.string sb) := blkC hg2.out 0; have p3 : U4.cell? ⟨g2, 1, none⟩ = some (.string sc) := blkC hg2.out 1; have p4 := blkX hg1.out; have p5 := blkX hg2.out
      go_wp2_with (fail)
      refine htk.mono ?_
      rintro e U5 ⟨Bu, mu, du, rfl, hmu, hE, hB, tn, hmv⟩
      clear htk
      rw [takeC_ok' hcut.out.o3]
      clear p0 p1 p2 p3 p4 p5
      have hch := hmv.chg
      replace hmu := Lib.hid hmu
      have ru : Hid (∀ k, rowOf Bu = some k → Wz.heap.size ≤ k) := Lib.hid (fun k hk => Nat.le_trans s0.out (hB k hk))
      have kx_ := Lib.hid (Chg.belowAfter kx.out hch kx.out.size (fun k hk q => by have := loz.out k q; have := kc.out; omega))
      have htx_ := Lib.hid (htx.out.chg hch apxz.out)
      have hty_ := Lib.hid (hty.out.chg hch apyz.out)
      have hg1_ := Lib.hid ((hch.block _ (blkX hg1.out) (fun q => by have := loz.out _ q; have := lhg1.out; omega)).trans hg1.out)
      have hg2_ := Lib.hid ((hch.block _ (blkX hg2.out) (fun q => by have := loz.out _ q; have := lhg2.out; omega)).trans hg2.out)
      have ep_ := Lib.hid (SLchg ep.out hch (fun _ k hk q => by have := hiz.out _ q; have := rp.out k hk; omega))
      have eq_ := Lib.hid (SLchg eq.out hch (fun _ k hk q => by have := hiz.out _ q; have := rq.out k hk; omega))
      have er_ := Lib.hid (SLchg er.out hch (fun _ k hk q => by have := hiz.out _ q; have := rr.out k hk; omega))
      have et_ := Lib.hid (SLchg et.out hch (fun _ k hk q => by have := hiz.out _ q; have := rt.out k hk; omega))
      have s0_ := Lib.hid (Nat.le_trans s0.out hch.size)
      have htz_ := Lib.hid tn
      clear kx hg1 hg2 htx hty htz ep eq er et s0
      have kx := kx_; have hg1 := hg1_; have hg2 := hg2_; have htx := htx_; have hty := hty_; have htz := htz_; have ep := ep_; have eq := eq_; have er := er_; have et := et_; have s0 := s0_
      clear kx_ hg1_ hg2_ htx_ hty_ htz_ ep_ eq_ er_ et_ s0_
      have eu := Lib.hid hE
      clear hE hB tn hmv hch
      have hPx : takeL (sb, sc) (takeL (sa, sb) P) = takeL (sa, sc) P := hcut.out.xy.1
      have hPy : takeL (sa, sb) (takeL (sb, sc) P) = takeL (sa, sc) P := hcut.out.xy.2
      have hq := eq.out; have ht' := et.out; have hmq' := hmq.out; have hmt' := hmt.out
      rw [hcut.out.q] at hq hmq'
      rw [hcut.out.t] at ht' hmt'
      replace hmq := Lib.hid hmq'; replace hmt := Lib.hid hmt'
      clear eq et hmq' hmt'
      have eq := Lib.hid hq; have et := Lib.hid ht'
      clear hq ht'
      have hx' := htx.out; have hy' := hty.out
      rw [hPx] at hx'
      rw [hPy] at hy'
      clear htx hty
      have htx := Lib.hid hx'; have hty := Lib.hid hy'
      clear hx' hy' hPx hPy
      obtain ⟨LP, hLP⟩ : ∃ l, l = takeO (sa, sb) P := ⟨_, rfl⟩
      obtain ⟨LQ, hLQ⟩ : ∃ l, l = takeO (sb, sc) P := ⟨_, rfl⟩
      obtain ⟨LU, hLU⟩ : ∃ l, l = takeO (sa, sc) P := ⟨_, rfl⟩
      obtain ⟨PX, hPX⟩ : ∃ l, l = takeL (sa, sc) P := ⟨_, rfl⟩
      have hall : sortE (LP ++ LQ) = LU := by rw [hLP, hLQ, hLU]; exact hcut.out.all hord.out
      rw [← hLP] at hmp ep et hmt; rw [← hLQ] at hmq eq er hmr; rw [← hLU] at hmu eu; rw [← hPX] at htx hty htz
      have hnp : mp ≤ 200 ∧ mt ≤ 200 ∧ mq ≤ 200 ∧ mr ≤ 200 ∧ mu ≤ 200 := by
        have h1 := taken_len (g := (sa, sb)) P; have h2 := taken_len (g := (sb, sc)) P; have h3 := taken_len (g := (sa, sc)) P
        rw [← hLP] at h1; rw [← hLQ] at h2; rw [← hLU] at h3
        have := hmp.out; have := hmq.out; have := hmr.out; have := hmt.out; have := hmu.out; have := hP0.out
        omega
      obtain ⟨np, nt, nq, nr, nu⟩ := hnp
      replace hLP := Lib.hid hLP
      replace hLQ := Lib.hid hLQ
      replace hLU := Lib.hid hLU
      replace hPX := Lib.hid hPX
      replace hall := Lib.hid hall
      skip
      obtain ⟨U6, hU6⟩ : ∃ W, W = U5.alloc (.cells #[.slice Bp mp dp, .slice Bq mq dq] 33) := ⟨_, rfl⟩
      have b6 : Below U5.heap.size U5 U6 := by rw [hU6]; exact (Below.refl _ _).alloc (Nat.le_refl _) _
      have hG6 : U6.heap[U5.heap.size]? = some (.cells #[.slice Bp mp dp, .slice Bq mq dq] 33 (0, 0)) := by rw [hU6]; exact hpNew _ _
      have kx_ := Lib.hid (kx.out.trans (b6.mono kx.out.size))
      have htx_ := Lib.hid (htx.out.below b6)
      have hty_ := Lib.hid (hty.out.below b6)
      have htz_ := Lib.hid (htz.out.below b6)
      have hg1_ := Lib.hid ((b6.block _ (blkX hg1.out)).trans hg1.out)
      have hg2_ := Lib.hid ((b6.block _ (blkX hg2.out)).trans hg2.out)
      have ep_ := Lib.hid (SL.keep ep.out b6)
      have eq_ := Lib.hid (SL.keep eq.out b6)
      have er_ := Lib.hid (SL.keep er.out b6)
      have et_ := Lib.hid (SL.keep et.out b6)
      have eu_ := Lib.hid (SL.keep eu.out b6)
      have s0_ := Lib.hid (Nat.le_trans s0.out b6.size)
      clear kx hg1 hg2 htx hty htz ep eq er et eu s0
      have kx := kx_; have hg1 := hg1_; have hg2 := hg2_; have htx := htx_; have hty := hty_; have htz := htz_; have ep := ep_; have eq := eq_; have er := er_; have et := et_; have eu := eu_; have s0 := s0_
      clear kx_ hg1_ hg2_ htx_ hty_ htz_ ep_ eq_ er_ et_ eu_ s0_
      have s6 := Lib.hid kx.out.size
      have s6' := Lib.hid s0.out
      have s6'' := Lib.hid (Nat.le_trans swz.out s0.out)
      have hcc := concat2 (cp := 2) hG6 ep.out eq.out (by omega) (by omega)
      have hlw := Lib.hid (Nat.le_refl U6.heap.size)
      replace hU6 := Lib.hid hU6; replace hG6 := Lib.hid hG6; clear b6
      go_wp2_with (fail)
      rw [← hU6.out]
      refine hcc.mono ?_
      rintro e U7 ⟨C, cc2, rfl, hown, b7⟩
      clear hcc hG6
      have rC := own_row hown
      have up : ∀ (B : Option Addr) (m : Nat) (l : List Ef), ES U6 B m l → 0 < m → ∀ k, rowOf B = some k → k < U6.heap.size := fun B m l h h0 k hk => by
        obtain ⟨b, o, e, hl, -⟩ := h.2 h0
        subst e; cases hk; exact hl
      have upp := Lib.hid (up _ _ _ ep.out)
      have upq := Lib.hid (up _ _ _ eq.out)
      have upr := Lib.hid (up _ _ _ er.out)
      have upt := Lib.hid (up _ _ _ et.out)
      have upu := Lib.hid (up _ _ _ eu.out)
      replace rC := Lib.hid rC
      clear up
      have kx_ := Lib.hid (kx.out.trans (b7.mono kx.out.size))
      have htx_ := Lib.hid (htx.out.below b7)
      have hty_ := Lib.hid (hty.out.below b7)
      have htz_ := Lib.hid (htz.out.below b7)
      have hg1_ := Lib.hid ((b7.block _ (blkX hg1.out)).trans hg1.out)
      have hg2_ := Lib.hid ((b7.block _ (blkX hg2.out)).trans hg2.out)
      have ep_ := Lib.hid (SL.keep ep.out b7)
      have eq_ := Lib.hid (SL.keep eq.out b7)
      have er_ := Lib.hid (SL.keep er.out b7)
      have et_ := Lib.hid (SL.keep et.out b7)
      have eu_ := Lib.hid (SL.keep eu.out b7)
      have s0_ := Lib.hid (Nat.le_trans s0.out b7.size)
      clear kx hg1 hg2 htx hty htz ep eq er et eu s0
      have kx := kx_; have hg1 := hg1_; have hg2 := hg2_; have htx := htx_; have hty := hty_; have htz := htz_; have ep := ep_; have eq := eq_; have er := er_; have et := et_; have eu := eu_; have s0 := s0_
      clear kx_ hg1_ hg2_ htx_ hty_ htz_ ep_ eq_ er_ et_ eu_ s0_
      have hown' := Lib.hid hown
      have hlen : (LP ++ LQ).length = mp + mq := by rw [List.length_append, ← hmp.out, ← hmq.out]
      have hso := sort_any (base := U6.heap.size) b7.size hown hlen (by omega)
      rw [hall.out] at hso
      replace hlen := Lib.hid hlen
      clear hown hown' b7
      go_wp2_with (fail)
      refine hso.mono ?_
      rintro e U8 ⟨rfl, hown, hgr⟩
      clear hso
      have hch : Chg (fun k => rowOf C = some k) U7 U8 := Chg.of_grown hgr (fun k e => e)
      have kx_ := Lib.hid (Chg.belowAfter kx.out hch kx.out.size (fun k hk q => by have := (rC.out k q).1; have := s6.out; omega))
      have htx_ := Lib.hid (htx.out.chg hch (fun k q e => by have := hix.out k q; have := (rC.out k e).1; have := s6'.out; omega))
      have hty_ := Lib.hid (hty.out.chg hch (fun k q e => by have := hiy.out k q; have := (rC.out k e).1; have := s6'.out; omega))
      have htz_ := Lib.hid (htz.out.chg hch (fun k q e => by have := hiz.out k q; have := (rC.out k e).1; have := s6'.out; omega))
      have hg1_ := Lib.hid ((hch.block _ (blkX hg1.out) (fun q => by have := (rC.out _ q).1; have := lhg1.out; have := s6''.out; omega)).trans hg1.out)
      have hg2_ := Lib.hid ((hch.block _ (blkX hg2.out) (fun q => by have := (rC.out _ q).1; have := lhg2.out; have := s6''.out; omega)).trans hg2.out)
      have ep_ := Lib.hid (SLchg ep.out hch (fun h0 k hk q => by have := upp.out h0 k hk; have := (rC.out k q).1; omega))
      have eq_ := Lib.hid (SLchg eq.out hch (fun h0 k hk q => by have := upq.out h0 k hk; have := (rC.out k q).1; omega))
      have er_ := Lib.hid (SLchg er.out hch (fun h0 k hk q => by have := upr.out h0 k hk; have := (rC.out k q).1; omega))
      have et_ := Lib.hid (SLchg et.out hch (fun h0 k hk q => by have := upt.out h0 k hk; have := (rC.out k q).1; omega))
      have eu_ := Lib.hid (SLchg eu.out hch (fun h0 k hk q => by have := upu.out h0 k hk; have := (rC.out k q).1; omega))
      have s0_ := Lib.hid (Nat.le_trans s0.out hch.size)
      clear kx hg1 hg2 htx hty htz ep eq er et eu s0
      have kx := kx_; have hg1 := hg1_; have hg2 := hg2_; have htx := htx_; have hty := hty_; have htz := htz_; have ep := ep_; have eq := eq_; have er := er_; have et := et_; have eu := eu_; have s0 := s0_
      clear kx_ hg1_ hg2_ htx_ hty_ htz_ ep_ eq_ er_ et_ eu_ s0_
      have eC := Lib.hid (SL.of_own encE_len hown (show LU.length = mp + mq from by rw [← hall.out, sortE_len]; exact hlen.out))
      clear hown hgr hch
      have hq := equal_any Bp Bt mp dp mt dt LP LP U8 ep.out et.out (by omega) (by omega)
      rw [show decide (LP = LP) = true from decide_eq_true rfl] at hq
      go_wp2_with (fail)
      refine hq.mono ?_
      rintro e E6 ⟨rfl, b⟩
      clear hq
      have kx_ := Lib.hid (kx.out.trans (b.mono kx.out.size))
      have htx_ := Lib.hid (htx.out.below b)
      have hty_ := Lib.hid (hty.out.below b)
      have htz_ := Lib.hid (htz.out.below b)
      have hg1_ := Lib.hid ((b.block _ (blkX hg1.out)).trans hg1.out)
      have hg2_ := Lib.hid ((b.block _ (blkX hg2.out)).trans hg2.out)
      have ep_ := Lib.hid (SL.keep ep.out b)
      have eq_ := Lib.hid (SL.keep eq.out b)
      have er_ := Lib.hid (SL.keep er.out b)
      have et_ := Lib.hid (SL.keep et.out b)
      have eu_ := Lib.hid (SL.keep eu.out b)
      have eC_ := Lib.hid (SL.keep eC.out b)
      have s0_ := Lib.hid (Nat.le_trans s0.out b.size)
      clear kx hg1 hg2 htx hty htz ep eq er et eu eC s0
      have kx := kx_; have hg1 := hg1_; have hg2 := hg2_; have htx := htx_; have hty := hty_; have htz := htz_; have ep := ep_; have eq := eq_; have er := er_; have et := et_; have eu := eu_; have eC := eC_; have s0 := s0_
      clear kx_ hg1_ hg2_ htx_ hty_ htz_ ep_ eq_ er_ et_ eu_ eC_ s0_
      clear b
      have hq := equal_any Bq Br mq dq mr dr LQ LQ E6 eq.out er.out (by omega) (by omega)
      rw [show decide (LQ = LQ) = true from decide_eq_true rfl] at hq
      go_wp2_with (fail)
      refine hq.mono ?_
      rintro e E7 ⟨rfl, b⟩
      clear hq
      have kx_ := Lib.hid (kx.out.trans (b.mono kx.out.size))
      have htx_ := Lib.hid (htx.out.below b)
      have hty_ := Lib.hid (hty.out.below b)
      have htz_ := Lib.hid (htz.out.below b)
      have hg1_ := Lib.hid ((b.block _ (blkX hg1.out)).trans hg1.out)
      have hg2_ := Lib.hid ((b.block _ (blkX hg2.out)).trans hg2.out)
      have ep_ := Lib.hid (SL.keep ep.out b)
      have eq_ := Lib.hid (SL.keep eq.out b)
      have er_ := Lib.hid (SL.keep er.out b)
      have et_ := Lib.hid (SL.keep et.out b)
      have eu_ := Lib.hid (SL.keep eu.out b)
      have eC_ := Lib.hid (SL.keep eC.out b)
      have s0_ := Lib.hid (Nat.le_trans s0.out b.size)
      clear kx hg1 hg2 htx hty htz ep eq er et eu eC s0
      have kx := kx_; have hg1 := hg1_; have hg2 := hg2_; have htx := htx_; have hty := hty_; have htz := htz_; have ep := ep_; have eq := eq_; have er := er_; have et := et_; have eu := eu_; have eC := eC_; have s0 := s0_
      clear kx_ hg1_ hg2_ htx_ hty_ htz_ ep_ eq_ er_ et_ eu_ eC_ s0_
      clear b
      have hq := equal_any Bu C mu du (mp + mq) cc2 LU LU E7 eu.out eC.out (by omega) (by omega)
      rw [show decide (LU = LU) = true from decide_eq_true rfl] at hq
      go_wp2_with (fail)
      refine hq.mono ?_
      rintro e E8 ⟨rfl, b⟩
      clear hq
      have kx_ := Lib.hid (kx.out.trans (b.mono kx.out.size))
      have htx_ := Lib.hid (htx.out.below b)
      have hty_ := Lib.hid (hty.out.below b)
      have htz_ := Lib.hid (htz.out.below b)
      have hg1_ := Lib.hid ((b.block _ (blkX hg1.out)).trans hg1.out)
      have hg2_ := Lib.hid ((b.block _ (blkX hg2.out)).trans hg2.out)
      have ep_ := Lib.hid (SL.keep ep.out b)
      have eq_ := Lib.hid (SL.keep eq.out b)
      have er_ := Lib.hid (SL.keep er.out b)
      have et_ := Lib.hid (SL.keep et.out b)
      have eu_ := Lib.hid (SL.keep eu.out b)
      have eC_ := Lib.hid (SL.keep eC.out b)
      have s0_ := Lib.hid (Nat.le_trans s0.out b.size)
      clear kx hg1 hg2 htx hty htz ep eq er et eu eC s0
      have kx := kx_; have hg1 := hg1_; have hg2 := hg2_; have htx := htx_; have hty := hty_; have htz := htz_; have ep := ep_; have eq := eq_; have er := er_; have et := et_; have eu := eu_; have eC := eC_; have s0 := s0_
      clear kx_ hg1_ hg2_ htx_ hty_ htz_ ep_ eq_ er_ et_ eu_ eC_ s0_
      clear b
      clear ep eq er et eu eC
      have ha := all_any htx.out
      go_wp2_with (fail)
      refine ha.mono ?_
      rintro e F9 ⟨Ba1, ma1, da1, rfl, hma1, hE, -, b⟩
      clear ha
      have hna1 : ma1 ≤ 200 := by have := htx.out.le; omega
      replace hma1 := Lib.hid hma1
      have kx_ := Lib.hid (kx.out.trans (b.mono kx.out.size))
      have htx_ := Lib.hid (htx.out.below b)
      have hty_ := Lib.hid (hty.out.below b)
      have htz_ := Lib.hid (htz.out.below b)
      have hg1_ := Lib.hid ((b.block _ (blkX hg1.out)).trans hg1.out)
      have hg2_ := Lib.hid ((b.block _ (blkX hg2.out)).trans hg2.out)
      have s0_ := Lib.hid (Nat.le_trans s0.out b.size)
      clear kx hg1 hg2 htx hty htz s0
      have kx := kx_; have hg1 := hg1_; have hg2 := hg2_; have htx := htx_; have hty := hty_; have htz := htz_; have s0 := s0_
      clear kx_ hg1_ hg2_ htx_ hty_ htz_ s0_
      have ea1 := Lib.hid hE
      clear hE b
      have ha := all_any hty.out
      go_wp2_with (fail)
      refine ha.mono ?_
      rintro e F10 ⟨Ba2, ma2, da2, rfl, hma2, hE, -, b⟩
      clear ha
      have hna2 : ma2 ≤ 200 := by have := hty.out.le; omega
      replace hma2 := Lib.hid hma2
      have kx_ := Lib.hid (kx.out.trans (b.mono kx.out.size))
      have htx_ := Lib.hid (htx.out.below b)
      have hty_ := Lib.hid (hty.out.below b)
      have htz_ := Lib.hid (htz.out.below b)
      have hg1_ := Lib.hid ((b.block _ (blkX hg1.out)).trans hg1.out)
      have hg2_ := Lib.hid ((b.block _ (blkX hg2.out)).trans hg2.out)
      have ea1_ := Lib.hid (SL.keep ea1.out b)
      have s0_ := Lib.hid (Nat.le_trans s0.out b.size)
      clear kx hg1 hg2 htx hty htz ea1 s0
      have kx := kx_; have hg1 := hg1_; have hg2 := hg2_; have htx := htx_; have hty := hty_; have htz := htz_; have ea1 := ea1_; have s0 := s0_
      clear kx_ hg1_ hg2_ htx_ hty_ htz_ ea1_ s0_
      have ea2 := Lib.hid hE
      clear hE b
      have hq := equal_any Ba1 Ba2 ma1 da1 ma2 da2 (PX.map En.e) (PX.map En.e) F10 ea1.out ea2.out (by omega) (by omega)
      rw [show decide ((PX.map En.e) = (PX.map En.e)) = true from decide_eq_true rfl] at hq
      go_wp2_with (fail)
      refine hq.mono ?_
      rintro e E11 ⟨rfl, b⟩
      clear hq
      have kx_ := Lib.hid (kx.out.trans (b.mono kx.out.size))
      have htx_ := Lib.hid (htx.out.below b)
      have hty_ := Lib.hid (hty.out.below b)
      have htz_ := Lib.hid (htz.out.below b)
      have hg1_ := Lib.hid ((b.block _ (blkX hg1.out)).trans hg1.out)
      have hg2_ := Lib.hid ((b.block _ (blkX hg2.out)).trans hg2.out)
      have ea1_ := Lib.hid (SL.keep ea1.out b)
      have ea2_ := Lib.hid (SL.keep ea2.out b)
      have s0_ := Lib.hid (Nat.le_trans s0.out b.size)
      clear kx hg1 hg2 htx hty htz ea1 ea2 s0
      have kx := kx_; have hg1 := hg1_; have hg2 := hg2_; have htx := htx_; have hty := hty_; have htz := htz_; have ea1 := ea1_; have ea2 := ea2_; have s0 := s0_
      clear kx_ hg1_ hg2_ htx_ hty_ htz_ ea1_ ea2_ s0_
      clear b
      have ha := all_any htx.out
      go_wp2_with (fail)
      refine ha.mono ?_
      rintro e F12 ⟨Ba3, ma3, da3, rfl, hma3, hE, -, b⟩
      clear ha
      have hna3 : ma3 ≤ 200 := by have := htx.out.le; omega
      replace hma3 := Lib.hid hma3
      have kx_ := Lib.hid (kx.out.trans (b.mono kx.out.size))
      have htx_ := Lib.hid (htx.out.below b)
      have hty_ := Lib.hid (hty.out.below b)
      have htz_ := Lib.hid (htz.out.below b)
      have hg1_ := Lib.hid ((b.block _ (blkX hg1.out)).trans hg1.out)
      have hg2_ := Lib.hid ((b.block _ (blkX hg2.out)).trans hg2.out)
      have ea1_ := Lib.hid (SL.keep ea1.out b)
      have ea2_ := Lib.hid (SL.keep ea2.out b)
      have s0_ := Lib.hid (Nat.le_trans s0.out b.size)
      clear kx hg1 hg2 htx hty htz ea1 ea2 s0
      have kx := kx_; have hg1 := hg1_; have hg2 := hg2_; have htx := htx_; have hty := hty_; have htz := htz_; have ea1 := ea1_; have ea2 := ea2_; have s0 := s0_
      clear kx_ hg1_ hg2_ htx_ hty_ htz_ ea1_ ea2_ s0_
      have ea3 := Lib.hid hE
      clear hE b
      have ha := all_any htz.out
      go_wp2_with (fail)
      refine ha.mono ?_
      rintro e F13 ⟨Ba4, ma4, da4, rfl, hma4, hE, -, b⟩
      clear ha
      have hna4 : ma4 ≤ 200 := by have := htz.out.le; omega
      replace hma4 := Lib.hid hma4
      have kx_ := Lib.hid (kx.out.trans (b.mono kx.out.size))
      have htx_ := Lib.hid (htx.out.below b)
      have hty_ := Lib.hid (hty.out.below b)
      have htz_ := Lib.hid (htz.out.below b)
      have hg1_ := Lib.hid ((b.block _ (blkX hg1.out)).trans hg1.out)
      have hg2_ := Lib.hid ((b.block _ (blkX hg2.out)).trans hg2.out)
      have ea1_ := Lib.hid (SL.keep ea1.out b)
      have ea2_ := Lib.hid (SL.keep ea2.out b)
      have ea3_ := Lib.hid (SL.keep ea3.out b)
      have s0_ := Lib.hid (Nat.le_trans s0.out b.size)
      clear kx hg1 hg2 htx hty htz ea1 ea2 ea3 s0
      have kx := kx_; have hg1 := hg1_; have hg2 := hg2_; have htx := htx_; have hty := hty_; have htz := htz_; have ea1 := ea1_; have ea2 := ea2_; have ea3 := ea3_; have s0 := s0_
      clear kx_ hg1_ hg2_ htx_ hty_ htz_ ea1_ ea2_ ea3_ s0_
      have ea4 := Lib.hid hE
      clear hE b
      have hq := equal_any Ba3 Ba4 ma3 da3 ma4 da4 (PX.map En.e) (PX.map En.e) F13 ea3.out ea4.out (by omega) (by omega)
      rw [show decide ((PX.map En.e) = (PX.map En.e)) = true from decide_eq_true rfl] at hq
      go_wp2_with (fail)
      refine hq.mono ?_
      rintro e E14 ⟨rfl, b⟩
      clear hq
      have kx_ := Lib.hid (kx.out.trans (b.mono kx.out.size))
      have htx_ := Lib.hid (htx.out.below b)
      have hty_ := Lib.hid (hty.out.below b)
      have htz_ := Lib.hid (htz.out.below b)
      have hg1_ := Lib.hid ((b.block _ (blkX hg1.out)).trans hg1.out)
      have hg2_ := Lib.hid ((b.block _ (blkX hg2.out)).trans hg2.out)
      have ea1_ := Lib.hid (SL.keep ea1.out b)
      have ea2_ := Lib.hid (SL.keep ea2.out b)
      have ea3_ := Lib.hid (SL.keep ea3.out b)
      have ea4_ := Lib.hid (SL.keep ea4.out b)
      have s0_ := Lib.hid (Nat.le_trans s0.out b.size)
      clear kx hg1 hg2 htx hty htz ea1 ea2 ea3 ea4 s0
      have kx := kx_; have hg1 := hg1_; have hg2 := hg2_; have htx := htx_; have hty := hty_; have htz := htz_; have ea1 := ea1_; have ea2 := ea2_; have ea3 := ea3_; have ea4 := ea4_; have s0 := s0_
      clear kx_ hg1_ hg2_ htx_ hty_ htz_ ea1_ ea2_ ea3_ ea4_ s0_
      clear b
      go_wp2_with (fail)
      refine (hworks _).mono ?_
      rintro e Z ⟨rfl, b⟩
      have kf := Lib.hid (kx.out.trans (b.mono kx.out.size))
      clear b
      go_wp2_with (fail)
      go_ret
      exact ⟨rfl, kf.out⟩
end Go.Proofs.YtkdfhackpmdgfaaGreatDoor
