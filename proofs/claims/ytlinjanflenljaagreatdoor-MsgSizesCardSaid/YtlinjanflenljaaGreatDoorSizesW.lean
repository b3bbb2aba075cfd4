/- How long messages are: the walk. -/
import Derived.Test.YtlinjanflenljaaGreatDoorSizesP
import Derived.Test.YtlinjanflenljaaGreatDoorMWorks
import Derived.Test.YtlinjanflenljaaGreatDoorRM
import Derived.Deep.RegionHeld3
namespace Go.Proofs.YtlinjanflenljaaGreatDoor
open Go.RowKit
set_option linter.unusedSimpArgs false
set_option linter.unusedVariables false
set_option linter.unusedSectionVars false
set_option maxRecDepth 10000
theorem enc_val0 (w : World) (hL : Ldr w) : Calls Tryz.prog 17 #[.agg #[.int .i64 4, .int .i64 0, .int .i64 1, .int .i64 1, .int .i64 2, .int .i64 9, .int .i64 0, .string ⟨#[]⟩, .slice none 0 0]] w fun e w' => ∃ A' c', e = .returned (.tuple #[.slice A' 7 c', .int .i64 0]) ∧ Below w.heap.size w w' := by
  have h := enc_val [] (by simp) w hL
  rw [show sOf [] = (⟨#[]⟩ : ByteArray) from rfl, show 7 + ([] : List UInt8).length = 7 from rfl] at h
  exact h
theorem enc_lst0 (w : World) (hL : Ldr w) : Calls Tryz.prog 17 #[.agg #[.int .i64 2, .int .i64 0, .int .i64 1, .int .i64 1, .int .i64 2, .int .i64 0, .int .i64 0, .string ⟨#[]⟩, .slice none 0 0]] w fun e w' => ∃ A' c', e = .returned (.tuple #[.slice A' 7 c', .int .i64 0]) ∧ Below w.heap.size w w' := by
  have h := enc_lst [] (by simp) (by simp) (A := none) (n := 0) (c := 0) rfl w hL (SL.nil _ _)
  rw [show 7 + sumL [] = 7 from rfl] at h
  exact h
attribute [local go_sem ↓] hideAppend
set_option maxHeartbeats 64000000 in
theorem sizes_walk (v : List UInt8) (A : Option Addr) (n c : Nat) (ls : List (List UInt8)) (w : World) (hL : Ldr w) (hA : SL encT 1 w A n ls) :
    Calls Tryz.prog 7 #[.string (sOf v), .slice A n c] w fun e w' => e = .returned (.bool true) ∧ Below w.heap.size w w' := by
  have kx := Lib.hid (Below.refl w.heap.size w)
  have hvl := sOf_size v
  generalize hs : (sOf v).size = s at *
  have hsi : ((sOf v).size : Int) = (s : Int) := by omega
  replace hL := Lib.hid hL; replace hA := Lib.hid hA; replace hs := Lib.hid hs
  by_cases h1 : 100 < s
  · have a1 : (100 : Int) < (s : Int) := by omega
    go_enter Tryz.func7, Tryz.ntmps7
    go_wp2_with (fail)
    refine (works_any _ (hL.out.keep kx.out)).mono ?_
    rintro e W1 ⟨rfl, bv⟩
    have kx1 := Lib.hid (kx.out.trans (bv.mono kx.out.size))
    clear bv kx; have kx := kx1; clear kx1
    go_wp2_with (fail)
    go_ret
    exact ⟨rfl, kx.out⟩
  have a1 : ¬ (100 : Int) < (s : Int) := by omega
  by_cases h2 : 20 < n
  · have a2 : (20 : Int) < (n : Int) := by omega
    go_enter Tryz.func7, Tryz.ntmps7
    go_wp2_with (fail)
    refine (works_any _ (hL.out.keep kx.out)).mono ?_
    rintro e W1 ⟨rfl, bv⟩
    have kx1 := Lib.hid (kx.out.trans (bv.mono kx.out.size))
    clear bv kx; have kx := kx1; clear kx1
    go_wp2_with (fail)
    go_ret
    exact ⟨rfl, kx.out⟩
  have a2 : ¬ (20 : Int) < (n : Int) := by omega
  obtain ⟨U, hU⟩ : ∃ U, U = w.alloc (.cells #[.int .i64 1, .int .i64 2] 25) := ⟨_, rfl⟩
  have kx1 : Below w.heap.size w U := by rw [hU]; exact (Below.refl _ w).alloc (Nat.le_refl _) _
  have hBb : U.heap[w.heap.size]? = some (.cells #[.int .i64 1, .int .i64 2] 25 (0, 0)) := by rw [hU]; exact hpNew w _
  clear kx; have kx := Lib.hid kx1; clear kx1; replace hBb := Lib.hid hBb
  go_enter Tryz.func7, Tryz.ntmps7
  go_wp2_with (fail)
  rw [← hU]
  clear hU
  refine (enc_val0 _ (hL.out.keep kx.out)).mono ?_
  rintro e W1 ⟨A2, c2, rfl, b2⟩
  have kx1 := Lib.hid (kx.out.trans (b2.mono kx.out.size))
  have hBb_1 := Lib.hid ((b2.block _ (blkX hBb.out)).trans hBb.out)
  clear b2 kx; have kx := kx1; clear kx1
  clear hBb; have hBb := hBb_1; clear hBb_1
  have b0 : W1.cell? ⟨w.heap.size, 0, none⟩ = some (.int .i64 1) := blkC hBb.out 0
  have b1 : W1.cell? ⟨w.heap.size, 1, none⟩ = some (.int .i64 2) := blkC hBb.out 1
  have lb := blkX hBb.out
  go_wp2_with (fail)
  refine (enc_val v (by omega) _ (hL.out.keep kx.out)).mono ?_
  rintro e W2 ⟨A3, c3, rfl, b3⟩
  have kx2 := Lib.hid (kx.out.trans (b3.mono kx.out.size))
  have hBb_2 := Lib.hid ((b3.block _ (blkX hBb.out)).trans hBb.out)
  clear b0 b1 lb 
  clear b3 kx; have kx := kx2; clear kx2
  clear hBb; have hBb := hBb_2; clear hBb_2
  obtain ⟨L2, hL2⟩ : ∃ L2, 7 + v.length = L2 := ⟨_, rfl⟩
  rw [hL2]
  have hl2 : (L2 : Int) = 7 + (s : Int) := by omega
  have hl3 : ((L2 : Int) == 7 + (s : Int)) = true := by simp [hl2]
  replace hl2 := Lib.hid hl2
  replace hL2 := Lib.hid hL2
  have hlp := Lib.hid (blkX hBb.out)
  have b0 : W2.cell? ⟨w.heap.size, 0, none⟩ = some (.int .i64 1) := blkC hBb.out 0
  have b1 : W2.cell? ⟨w.heap.size, 1, none⟩ = some (.int .i64 2) := blkC hBb.out 1
  have lb := blkX hBb.out
  obtain ⟨W3, hW3⟩ : ∃ W', W' = W2.alloc (.cells #[.int .i64 2, .int .i64 0, .int .i64 1, .int .i64 1, .int .i64 2, .int .i64 0, .int .i64 0, .string ⟨#[]⟩, .slice none 0 0] 28) := ⟨_, rfl⟩
  have bb : Below W2.heap.size W2 W3 := by rw [hW3]; exact (Below.refl _ W2).alloc (Nat.le_refl _) _
  have hBm := Lib.hid (show W3.heap[W2.heap.size]? = some (.cells #[.int .i64 2, .int .i64 0, .int .i64 1, .int .i64 1, .int .i64 2, .int .i64 0, .int .i64 0, .string ⟨#[]⟩, .slice none 0 0] 28 (0, 0)) from by rw [hW3]; exact hpNew W2 _)
  have kx3 := Lib.hid (kx.out.trans (bb.mono kx.out.size))
  have hBb_3 := Lib.hid ((bb.block _ (blkX hBb.out)).trans hBb.out)
  clear bb kx; have kx := kx3; clear kx3
  clear hBb; have hBb := hBb_3; clear hBb_3
  have b0 : W3.cell? ⟨w.heap.size, 0, none⟩ = some (.int .i64 1) := blkC hBb.out 0
  have b1 : W3.cell? ⟨w.heap.size, 1, none⟩ = some (.int .i64 2) := blkC hBb.out 1
  have lb := blkX hBb.out
  have m0 : W3.cell? ⟨W2.heap.size, 0, none⟩ = some (.int .i64 2) := blkC hBm.out 0
  have m1 : W3.cell? ⟨W2.heap.size, 1, none⟩ = some (.int .i64 0) := blkC hBm.out 1
  have m2 : W3.cell? ⟨W2.heap.size, 2, none⟩ = some (.int .i64 1) := blkC hBm.out 2
  have m3 : W3.cell? ⟨W2.heap.size, 3, none⟩ = some (.int .i64 1) := blkC hBm.out 3
  have m4 : W3.cell? ⟨W2.heap.size, 4, none⟩ = some (.int .i64 2) := blkC hBm.out 4
  have m5 : W3.cell? ⟨W2.heap.size, 5, none⟩ = some (.int .i64 0) := blkC hBm.out 5
  have m6 : W3.cell? ⟨W2.heap.size, 6, none⟩ = some (.int .i64 0) := blkC hBm.out 6
  have m7 : W3.cell? ⟨W2.heap.size, 7, none⟩ = some (.string ⟨#[]⟩) := blkC hBm.out 7
  have m8 : W3.cell? ⟨W2.heap.size, 8, none⟩ = some (.slice none 0 0) := blkC hBm.out 8
  have lm := blkX hBm.out
  go_wp2_with (fail)
  rw [← hW3]
  replace hW3 := Lib.hid hW3
  refine (enc_lst0 _ (hL.out.keep kx.out)).mono ?_
  rintro e W4 ⟨A4, c4, rfl, b4⟩
  have kx4 := Lib.hid (kx.out.trans (b4.mono kx.out.size))
  have hBb_4 := Lib.hid ((b4.block _ (blkX hBb.out)).trans hBb.out)
  have hBm_4 := Lib.hid ((b4.block _ (blkX hBm.out)).trans hBm.out)
  clear b0 b1 lb m0 m1 m2 m3 m4 m5 m6 m7 m8 lm 
  clear b4 kx; have kx := kx4; clear kx4
  clear hBb; have hBb := hBb_4; clear hBb_4
  clear hBm; have hBm := hBm_4; clear hBm_4
  have b0 : W4.cell? ⟨w.heap.size, 0, none⟩ = some (.int .i64 1) := blkC hBb.out 0
  have b1 : W4.cell? ⟨w.heap.size, 1, none⟩ = some (.int .i64 2) := blkC hBb.out 1
  have lb := blkX hBb.out
  have m0 : W4.cell? ⟨W2.heap.size, 0, none⟩ = some (.int .i64 2) := blkC hBm.out 0
  have m1 : W4.cell? ⟨W2.heap.size, 1, none⟩ = some (.int .i64 0) := blkC hBm.out 1
  have m2 : W4.cell? ⟨W2.heap.size, 2, none⟩ = some (.int .i64 1) := blkC hBm.out 2
  have m3 : W4.cell? ⟨W2.heap.size, 3, none⟩ = some (.int .i64 1) := blkC hBm.out 3
  have m4 : W4.cell? ⟨W2.heap.size, 4, none⟩ = some (.int .i64 2) := blkC hBm.out 4
  have m5 : W4.cell? ⟨W2.heap.size, 5, none⟩ = some (.int .i64 0) := blkC hBm.out 5
  have m6 : W4.cell? ⟨W2.heap.size, 6, none⟩ = some (.int .i64 0) := blkC hBm.out 6
  have m7 : W4.cell? ⟨W2.heap.size, 7, none⟩ = some (.string ⟨#[]⟩) := blkC hBm.out 7
  have m8 : W4.cell? ⟨W2.heap.size, 8, none⟩ = some (.slice none 0 0) := blkC hBm.out 8
  have lm := blkX hBm.out
  go_wp2_with (fail)
  have hPM := Lib.hid hlp.out
  go_loopw [13, 14] (fun q i wr => ∃ (k : Nat) (A1 : Option Addr) (c1 : Nat), k ≤ n ∧ i = .int .i64 k ∧ q = .int .i64 (sumL (ls.take k) : Nat) ∧ (∀ v ∈ ls.take k, v.length ≤ 100) ∧ Below w.heap.size w wr ∧ wr.heap[w.heap.size]? = some (.cells #[.int .i64 1, .int .i64 2] 25 (0, 0)) ∧ wr.heap[W2.heap.size]? = some (.cells #[.int .i64 2, .int .i64 0, .int .i64 1, .int .i64 1, .int .i64 2, .int .i64 0, .int .i64 0, .string ⟨#[]⟩, .slice A1 k c1] 28 (0, 0)) ∧ wr.ownsRow w.heap.size 45 4 (.slice A1 k c1) k (flat encEnt (entsF 0 (ls.take k)))) (fun _ i _ => n - (intOf i).toNat)
  case atStart => exact ⟨0, none, 0, by omega, rfl, rfl, by simp, kx.out, hBb.out, hBm.out, World.ownsRow_nil _ _ _ _⟩
  case round =>
    clear b0 b1 lb m0 m1 m2 m3 m4 m5 m6 m7 m8 lm 
    clear kx hBb hBm
    revert wr
    intro Y hrel
    obtain ⟨k, A1, c1, hk, rfl, rfl, hall, kx, hBb, hBm, hO⟩ := hrel
    have hlen := hA.out.1
    have hs9 := sumL_le _ hall
    have htl : (ls.take k).length = k := by rw [List.length_take]; omega
    obtain ⟨S, hS⟩ : ∃ S, sumL (ls.take k) = S := ⟨_, rfl⟩
    rw [hS] at hs9 ⊢
    have hS0 : S ≤ 2080 := by omega
    clear hs9
    by_cases hlt : k < n
    · obtain ⟨b, o, x, rfl, hbl, hx, hc⟩ := SL.at_ hA.out hlt
      have c0 := hc 0 _ rfl
      rw [Nat.mul_one, Nat.add_zero] at c0
      clear hc
      have d0 := (kx.cell (p := ⟨b, o + k, none⟩) hbl).trans c0
      have hxs := sOf_size x
      have hnx : ls.take (k + 1) = ls.take k ++ [x] := by rw [List.take_add_one, hx]; rfl
      generalize ht : (sOf x).size = t at *
      have hti : ((sOf x).size : Int) = (t : Int) := by omega
      have j0 : (0 : Int) ≤ k := by omega
      have j1 : (k : Int) < (n : Int) := by omega
      skip
      replace kx := Lib.hid kx; replace hBb := Lib.hid hBb; replace hBm := Lib.hid hBm; replace hO := Lib.hid hO; replace hx := Lib.hid hx; replace hnx := Lib.hid hnx; replace hall := Lib.hid hall; replace hlen := Lib.hid hlen; replace htl := Lib.hid htl; replace hS := Lib.hid hS; replace ht := Lib.hid ht; replace c0 := Lib.hid c0
      by_cases h3 : 100 < t
      · have a3 : (100 : Int) < (t : Int) := by omega
        go_wp2_with (fail)
        refine (works_any _ (hL.out.keep kx.out)).mono ?_
        rintro e W31 ⟨rfl, bv⟩
        have kx31 := Lib.hid (kx.out.trans (bv.mono kx.out.size))
        clear bv kx; have kx := kx31; clear kx31
        go_wp2_with (fail)
        go_ret
        exact ⟨rfl, kx.out⟩
      have a3 : ¬ (100 : Int) < (t : Int) := by omega
      have hx100 : x.length ≤ 100 := by omega
      go_wp2_with (fail)
      have hSv : ∀ W' : World, W'.heap[w.heap.size]? = some (.cells #[.int .i64 1, .int .i64 2] 25 (0, 0)) → Below w.heap.size w W' → (fun W' : World => W'.cell? ⟨w.heap.size, 0, none⟩ = some (.int .i64 1) ∧ W'.cell? ⟨w.heap.size, 1, none⟩ = some (.int .i64 2) ∧ W'.cell? ⟨b, o + k, none⟩ = some (.string (sOf x))) W' := by
        intro W' h1 h2
        exact ⟨blkC h1 0, blkC h1 1, (h2.cell (p := ⟨b, o + k, none⟩) hbl).trans c0.out⟩
      replace hSv := Lib.hid hSv
      clear d0
      have bD : Below Y.heap.size Y Y.drew := (Below.refl _ Y).drew
      have kx2 := Lib.hid (kx.out.trans (bD.mono kx.out.size))
      have hO2 := Lib.hid (own_keep2 hO.out bD)
      have hBb2 := Lib.hid ((bD.block _ (blkX hBb.out)).trans hBb.out)
      have hBm2 := Lib.hid ((bD.block _ (blkX hBm.out)).trans hBm.out)
      clear kx hO hBb hBm; have kx := kx2; have hO := hO2; have hBb := hBb2; have hBm := hBm2; clear kx2 hO2 hBb2 hBm2
      clear bD
      obtain ⟨V0, hV0⟩ : ∃ V0, V0 = Y.drew := ⟨_, rfl⟩
      rw [← hV0] at kx hO hBb hBm
      replace hV0 := Lib.hid hV0
      refine wp_region_held_drew (S := (fun W' : World => W'.cell? ⟨w.heap.size, 0, none⟩ = some (.int .i64 1) ∧ W'.cell? ⟨w.heap.size, 1, none⟩ = some (.int .i64 2) ∧ W'.cell? ⟨b, o + k, none⟩ = some (.string (sOf x)))) (by kernel_rfl) ?_ (fun hH => ?_)
      · rw [← hV0.out]
        exact hSv.out _ hBb.out kx.out
      refine wpAnyH_take (i := 0) (v := ?_) rfl (by kernel_rfl) (by kernel_rfl) (by kernel_rfl) (fun _ _ _ h => h) (Or.inl ⟨by rfl, by intro w hSw; go_simp; first | done | with_reducible rfl⟩) hH ?_
      simp only [List.getElem_toArray, List.getElem_cons_succ, List.getElem_cons_zero, Act.put, List.setIfInBounds_toArray, List.set_cons_zero, List.set_cons_succ]
      refine wpAnyH_take (i := 2) (v := ?_) rfl (by kernel_rfl) (by kernel_rfl) (by kernel_rfl) (fun _ _ _ h => h) (Or.inl ⟨by rfl, by intro w hSw; go_simp; first | done | with_reducible rfl⟩) hH ?_
      simp only [List.getElem_toArray, List.getElem_cons_succ, List.getElem_cons_zero, Act.put, List.setIfInBounds_toArray, List.set_cons_zero, List.set_cons_succ]
      refine wpAnyH_take (i := 3) (v := ?_) rfl (by kernel_rfl) (by kernel_rfl) (by kernel_rfl) (fun _ _ _ h => h) (Or.inl ⟨by rfl, by intro w hSw; obtain ⟨s0, s1, s2⟩ := hSw; go_simp; first | done | with_reducible rfl⟩) hH ?_
      simp only [List.getElem_toArray, List.getElem_cons_succ, List.getElem_cons_zero, Act.put, List.setIfInBounds_toArray, List.set_cons_zero, List.set_cons_succ]
      refine wpAnyH_take (i := 4) (v := ?_) rfl (by kernel_rfl) (by kernel_rfl) (by kernel_rfl) (fun _ _ _ h => h) (Or.inl ⟨by rfl, by intro w hSw; go_simp; first | done | with_reducible rfl⟩) hH ?_
      simp only [List.getElem_toArray, List.getElem_cons_succ, List.getElem_cons_zero, Act.put, List.setIfInBounds_toArray, List.set_cons_zero, List.set_cons_succ]
      refine wpAnyH_take (i := 5) (v := ?_) rfl (by kernel_rfl) (by kernel_rfl) (by kernel_rfl) (fun _ _ _ h => h) (Or.inl ⟨by rfl, by intro w hSw; go_simp; first | done | with_reducible rfl⟩) hH ?_
      simp only [List.getElem_toArray, List.getElem_cons_succ, List.getElem_cons_zero, Act.put, List.setIfInBounds_toArray, List.set_cons_zero, List.set_cons_succ]
      refine wpAnyH_take (i := 6) (v := ?_) rfl (by kernel_rfl) (by kernel_rfl) (by kernel_rfl) (fun _ _ _ h => h) (Or.inl ⟨by rfl, by intro w hSw; go_simp; first | done | with_reducible rfl⟩) hH ?_
      simp only [List.getElem_toArray, List.getElem_cons_succ, List.getElem_cons_zero, Act.put, List.setIfInBounds_toArray, List.set_cons_zero, List.set_cons_succ]
      refine wpAnyH_take (i := 7) (v := ?_) rfl (by kernel_rfl) (by kernel_rfl) (by kernel_rfl) (fun _ _ _ h => h) (Or.inl ⟨by rfl, by intro w hSw; obtain ⟨s0, s1, s2⟩ := hSw; go_simp; first | done | with_reducible rfl⟩) hH ?_
      simp only [List.getElem_toArray, List.getElem_cons_succ, List.getElem_cons_zero, Act.put, List.setIfInBounds_toArray, List.set_cons_zero, List.set_cons_succ]
      refine wpAnyH_take (i := 8) (v := ?_) rfl (by kernel_rfl) (by kernel_rfl) (by kernel_rfl) (fun _ _ _ h => h) (Or.inl ⟨by rfl, by intro w hSw; go_simp; first | done | with_reducible rfl⟩) hH ?_
      simp only [List.getElem_toArray, List.getElem_cons_succ, List.getElem_cons_zero, Act.put, List.setIfInBounds_toArray, List.set_cons_zero, List.set_cons_succ]
      refine wpAnyH_ready (rs := [1, 9]) (by kernel_rfl) (by simp) ?_
      refine AllReadyH.cons rfl (fun K hK => ?_) ?_
      · clear hH
        have hc8 : V0.cell? ⟨W2.heap.size, 8, none⟩ = some (.slice A1 k c1) := blkC hBm.out 8
        try rw [← hV0.out]
        go_simp
        clear hc8
        refine hK.out _ _ (hSv.out _ hBb.out kx.out) (fun hH => ?_)
        clear hK K
        refine wpAnyH_ready (rs := [9]) (by kernel_rfl) (by simp) ?_
        refine AllReadyH.cons rfl (fun K hK => ?_) ?_
        · clear hH
          have bb := (Below.refl _ V0).alloc (Nat.le_refl _) (.cells #[.int .i64 k, .int .i64 1, .int .i64 2, .string (sOf x)] 45)
          have hN := ent_one V0 k 1 2 x
          have kx2 := Lib.hid (kx.out.trans (bb.mono kx.out.size))
          have hO2 := Lib.hid (own_keep2 hO.out bb)
          have hBb2 := Lib.hid ((bb.block _ (blkX hBb.out)).trans hBb.out)
          have hBm2 := Lib.hid ((bb.block _ (blkX hBm.out)).trans hBm.out)
          clear kx hO hBb hBm; have kx := kx2; have hO := hO2; have hBb := hBb2; have hBm := hBm2; clear kx2 hO2 hBb2 hBm2
          clear bb
          try rw [← hV0.out]
          go_simp
          generalize hVV : V0.alloc (.cells #[.int .i64 k, .int .i64 1, .int .i64 2, .string (sOf x)] 45) = V1 at *
          replace hN := Lib.hid hN; replace hVV := Lib.hid hVV
          refine hK.out _ _ (hSv.out _ hBb.out kx.out) (fun hH => ?_)
          clear hK K
          refine wpAnyH_ready (rs := [10]) (by kernel_rfl) (by simp) ?_
          refine AllReadyH.cons rfl (fun K hK => ?_) ?_
          · clear hH
            obtain ⟨A', c', V2, hrun, hcap, hown, hgr, hat⟩ := append_sl elemEnt encEnt_len encEnt_one (ty := 26) (d := 1) hO.out kx.out.size hN.out (by omega) (by omega)
            rw [show entsF 0 (ls.take k) ++ [⟨(k : Int), 1, 2, x⟩] = entsF 0 (ls.take (k + 1)) from by rw [hnx.out, entsF_snoc, htl.out, Nat.zero_add]] at hown
            have hBb2 := (hgr.block _ (blkX hBb.out) (fun e => own_ty hO.out hBb.out (show 25 ≠ 45 from by decide) _ e.symm rfl)).trans hBb.out
            have hBm2 := (hgr.block _ (blkX hBm.out) (fun e => own_ty hO.out hBm.out (show 28 ≠ 45 from by decide) _ e.symm rfl)).trans hBm.out
            have kx2 := kx.out.grown hgr kx.out.size (fun k e => (own_row hO.out k e).1)
            clear kx hO hBb hBm; have kx := Lib.hid kx2; have hO := Lib.hid hown; have hBb := Lib.hid hBb2; have hBm := Lib.hid hBm2; clear kx2 hown hBb2 hBm2 hgr hat hcap hN
            go_simp
            refine hK.out _ _ (hSv.out _ hBb.out kx.out) (fun hH => ?_)
            clear hK K
            refine wpAnyH_take (i := 11) (v := ?_) rfl (by kernel_rfl) (by kernel_rfl) (by kernel_rfl) (fun _ _ _ h => h) (Or.inl ⟨by rfl, by intro w hSw; go_simp; first | done | with_reducible rfl⟩) hH ?_
            simp only [List.getElem_toArray, List.getElem_cons_succ, List.getElem_cons_zero, Act.put, List.setIfInBounds_toArray, List.set_cons_zero, List.set_cons_succ]
            refine wpAnyH_ready (rs := [12]) (by kernel_rfl) (by simp) ?_
            refine AllReadyH.cons rfl (fun K hK => ?_) ?_
            · clear hH
              have hc8 : V2.cell? ⟨W2.heap.size, 8, none⟩ = some (.slice A1 k c1) := blkC hBm.out 8
              have hfz := blkF hBm.out
              have hne := own_ty hO.out hBm.out (show 28 ≠ 45 from by decide)
              have hO2 := own_set hO.out hne 8 (.slice A' (k + 1) c')
              have hBb2 := (hpFar (a := ⟨W2.heap.size, 8, none⟩) (v := .slice A' (k + 1) c') (w := V2) (g := w.heap.size) (by have := hPM.out; simp only; omega)).trans hBb.out
              have hBm2 := hpSet (i := 8) (v := .slice A' (k + 1) c') hBm.out
              simp only [List.setIfInBounds_toArray, List.set_cons_succ, List.set_cons_zero] at hBm2
              have kx2 := kx.out.setCell (p := ⟨W2.heap.size, 8, none⟩) (by have := hPM.out; simp only; omega) (.slice A' (k + 1) c')
              clear kx hO hBb hBm; have kx := Lib.hid kx2; have hO := Lib.hid hO2; have hBb := Lib.hid hBb2; have hBm := Lib.hid hBm2; replace hne := Lib.hid hne; clear kx2 hO2 hBb2 hBm2
              go_simp
              clear hc8 hfz
              refine hK.out _ _ (hSv.out _ hBb.out kx.out) (fun hH => ?_)
              clear hK K
              refine wpAnyH_done (by kernel_rfl) ?_ _
              clear hH hSv
              have d0 := (kx.out.cell (p := ⟨b, o + k, none⟩) hbl).trans c0.out
              have hS1 : ((sumL (ls.take (k + 1)) : Nat) : Int) = (S : Int) + (4 + (t : Int)) := by rw [hnx.out, sumL_snoc, hS.out]; omega
              replace hS1 := Lib.hid hS1
              go_wp2_with (fail)
              refine ⟨⟨k + 1, A', c', by omega, by go_num, by rw [hS1.out]; go_num, ?_, kx.out, hBb.out, hBm.out, hO.out⟩, by simp [intOf]; omega⟩
              intro u hu
              rw [hnx.out] at hu
              rcases List.mem_append.1 hu with h | h
              · exact hall.out u h
              · simp at h; rw [h]; exact hx100
            exact AllReadyH.nil
          exact AllReadyH.nil
        exact AllReadyH.nil
      refine AllReadyH.cons rfl (fun K hK => ?_) ?_
      · clear hH
        have bb := (Below.refl _ V0).alloc (Nat.le_refl _) (.cells #[.int .i64 k, .int .i64 1, .int .i64 2, .string (sOf x)] 45)
        have hN := ent_one V0 k 1 2 x
        have kx2 := Lib.hid (kx.out.trans (bb.mono kx.out.size))
        have hO2 := Lib.hid (own_keep2 hO.out bb)
        have hBb2 := Lib.hid ((bb.block _ (blkX hBb.out)).trans hBb.out)
        have hBm2 := Lib.hid ((bb.block _ (blkX hBm.out)).trans hBm.out)
        clear kx hO hBb hBm; have kx := kx2; have hO := hO2; have hBb := hBb2; have hBm := hBm2; clear kx2 hO2 hBb2 hBm2
        clear bb
        try rw [← hV0.out]
        go_simp
        generalize hVV : V0.alloc (.cells #[.int .i64 k, .int .i64 1, .int .i64 2, .string (sOf x)] 45) = V1 at *
        replace hN := Lib.hid hN; replace hVV := Lib.hid hVV
        refine hK.out _ _ (hSv.out _ hBb.out kx.out) (fun hH => ?_)
        clear hK K
        refine wpAnyH_ready (rs := [1]) (by kernel_rfl) (by simp) ?_
        refine AllReadyH.cons rfl (fun K hK => ?_) ?_
        · clear hH
          have hc8 : V1.cell? ⟨W2.heap.size, 8, none⟩ = some (.slice A1 k c1) := blkC hBm.out 8
          try rw [← hV0.out]
          go_simp
          clear hc8
          refine hK.out _ _ (hSv.out _ hBb.out kx.out) (fun hH => ?_)
          clear hK K
          refine wpAnyH_ready (rs := [10]) (by kernel_rfl) (by simp) ?_
          refine AllReadyH.cons rfl (fun K hK => ?_) ?_
          · clear hH
            obtain ⟨A', c', V2, hrun, hcap, hown, hgr, hat⟩ := append_sl elemEnt encEnt_len encEnt_one (ty := 26) (d := 1) hO.out kx.out.size hN.out (by omega) (by omega)
            rw [show entsF 0 (ls.take k) ++ [⟨(k : Int), 1, 2, x⟩] = entsF 0 (ls.take (k + 1)) from by rw [hnx.out, entsF_snoc, htl.out, Nat.zero_add]] at hown
            have hBb2 := (hgr.block _ (blkX hBb.out) (fun e => own_ty hO.out hBb.out (show 25 ≠ 45 from by decide) _ e.symm rfl)).trans hBb.out
            have hBm2 := (hgr.block _ (blkX hBm.out) (fun e => own_ty hO.out hBm.out (show 28 ≠ 45 from by decide) _ e.symm rfl)).trans hBm.out
            have kx2 := kx.out.grown hgr kx.out.size (fun k e => (own_row hO.out k e).1)
            clear kx hO hBb hBm; have kx := Lib.hid kx2; have hO := Lib.hid hown; have hBb := Lib.hid hBb2; have hBm := Lib.hid hBm2; clear kx2 hown hBb2 hBm2 hgr hat hcap hN
            go_simp
            refine hK.out _ _ (hSv.out _ hBb.out kx.out) (fun hH => ?_)
            clear hK K
            refine wpAnyH_take (i := 11) (v := ?_) rfl (by kernel_rfl) (by kernel_rfl) (by kernel_rfl) (fun _ _ _ h => h) (Or.inl ⟨by rfl, by intro w hSw; go_simp; first | done | with_reducible rfl⟩) hH ?_
            simp only [List.getElem_toArray, List.getElem_cons_succ, List.getElem_cons_zero, Act.put, List.setIfInBounds_toArray, List.set_cons_zero, List.set_cons_succ]
            refine wpAnyH_ready (rs := [12]) (by kernel_rfl) (by simp) ?_
            refine AllReadyH.cons rfl (fun K hK => ?_) ?_
            · clear hH
              have hc8 : V2.cell? ⟨W2.heap.size, 8, none⟩ = some (.slice A1 k c1) := blkC hBm.out 8
              have hfz := blkF hBm.out
              have hne := own_ty hO.out hBm.out (show 28 ≠ 45 from by decide)
              have hO2 := own_set hO.out hne 8 (.slice A' (k + 1) c')
              have hBb2 := (hpFar (a := ⟨W2.heap.size, 8, none⟩) (v := .slice A' (k + 1) c') (w := V2) (g := w.heap.size) (by have := hPM.out; simp only; omega)).trans hBb.out
              have hBm2 := hpSet (i := 8) (v := .slice A' (k + 1) c') hBm.out
              simp only [List.setIfInBounds_toArray, List.set_cons_succ, List.set_cons_zero] at hBm2
              have kx2 := kx.out.setCell (p := ⟨W2.heap.size, 8, none⟩) (by have := hPM.out; simp only; omega) (.slice A' (k + 1) c')
              clear kx hO hBb hBm; have kx := Lib.hid kx2; have hO := Lib.hid hO2; have hBb := Lib.hid hBb2; have hBm := Lib.hid hBm2; replace hne := Lib.hid hne; clear kx2 hO2 hBb2 hBm2
              go_simp
              clear hc8 hfz
              refine hK.out _ _ (hSv.out _ hBb.out kx.out) (fun hH => ?_)
              clear hK K
              refine wpAnyH_done (by kernel_rfl) ?_ _
              clear hH hSv
              have d0 := (kx.out.cell (p := ⟨b, o + k, none⟩) hbl).trans c0.out
              have hS1 : ((sumL (ls.take (k + 1)) : Nat) : Int) = (S : Int) + (4 + (t : Int)) := by rw [hnx.out, sumL_snoc, hS.out]; omega
              replace hS1 := Lib.hid hS1
              go_wp2_with (fail)
              refine ⟨⟨k + 1, A', c', by omega, by go_num, by rw [hS1.out]; go_num, ?_, kx.out, hBb.out, hBm.out, hO.out⟩, by simp [intOf]; omega⟩
              intro u hu
              rw [hnx.out] at hu
              rcases List.mem_append.1 hu with h | h
              · exact hall.out u h
              · simp at h; rw [h]; exact hx100
            exact AllReadyH.nil
          exact AllReadyH.nil
        exact AllReadyH.nil
      exact AllReadyH.nil
    · obtain rfl : k = n := by omega
      skip
      rw [List.take_of_length_le (by omega)] at hall hS hO
      have htl2 : ls.length = k := hlen
      have hEe := SL.of_own encEnt_len hO (by rw [entsF_len]; exact hlen)
      replace kx := Lib.hid kx; replace hBb := Lib.hid hBb; replace hBm := Lib.hid hBm; replace hO := Lib.hid hO; replace hall := Lib.hid hall; replace hlen := Lib.hid hlen; replace htl := Lib.hid htl; replace hS := Lib.hid hS; replace hEe := Lib.hid hEe; replace htl2 := Lib.hid htl2
      have b0 : Y.cell? ⟨w.heap.size, 0, none⟩ = some (.int .i64 1) := blkC hBb.out 0
      have b1 : Y.cell? ⟨w.heap.size, 1, none⟩ = some (.int .i64 2) := blkC hBb.out 1
      have lb := blkX hBb.out
      have m0 : Y.cell? ⟨W2.heap.size, 0, none⟩ = some (.int .i64 2) := blkC hBm.out 0
      have m1 : Y.cell? ⟨W2.heap.size, 1, none⟩ = some (.int .i64 0) := blkC hBm.out 1
      have m2 : Y.cell? ⟨W2.heap.size, 2, none⟩ = some (.int .i64 1) := blkC hBm.out 2
      have m3 : Y.cell? ⟨W2.heap.size, 3, none⟩ = some (.int .i64 1) := blkC hBm.out 3
      have m4 : Y.cell? ⟨W2.heap.size, 4, none⟩ = some (.int .i64 2) := blkC hBm.out 4
      have m5 : Y.cell? ⟨W2.heap.size, 5, none⟩ = some (.int .i64 0) := blkC hBm.out 5
      have m6 : Y.cell? ⟨W2.heap.size, 6, none⟩ = some (.int .i64 0) := blkC hBm.out 6
      have m7 : Y.cell? ⟨W2.heap.size, 7, none⟩ = some (.string ⟨#[]⟩) := blkC hBm.out 7
      have m8 : Y.cell? ⟨W2.heap.size, 8, none⟩ = some (.slice A1 k c1) := blkC hBm.out 8
      have lm := blkX hBm.out
      go_wp2_with (fail)
      refine (enc_lst ls (by have := htl2.out; omega) hall.out htl2.out _ (hL.out.keep kx.out) hEe.out).mono ?_
      rintro e W61 ⟨A6, c6, rfl, b6⟩
      have kx61 := Lib.hid (kx.out.trans (b6.mono kx.out.size))
      have hBb_61 := Lib.hid ((b6.block _ (blkX hBb.out)).trans hBb.out)
      have hBm_61 := Lib.hid ((b6.block _ (blkX hBm.out)).trans hBm.out)
      clear b0 b1 lb m0 m1 m2 m3 m4 m5 m6 m7 m8 lm 
      clear b6 kx; have kx := kx61; clear kx61
      clear hBb; have hBb := hBb_61; clear hBb_61
      clear hBm; have hBm := hBm_61; clear hBm_61
      rw [hS.out]
      obtain ⟨L6, hL6⟩ : ∃ L6, 7 + S = L6 := ⟨_, rfl⟩
      rw [hL6]
      have hl6 : (L6 : Int) = 7 + (S : Int) := by omega
      have hl7 : ((L6 : Int) == 7 + (S : Int)) = true := by simp [hl6]
      replace hl6 := Lib.hid hl6; replace hL6 := Lib.hid hL6
      go_wp2_with (fail)
      refine (works_any _ (hL.out.keep kx.out)).mono ?_
      rintro e W62 ⟨rfl, bv⟩
      have kx62 := Lib.hid (kx.out.trans (bv.mono kx.out.size))
      have hBb_62 := Lib.hid ((bv.block _ (blkX hBb.out)).trans hBb.out)
      have hBm_62 := Lib.hid ((bv.block _ (blkX hBm.out)).trans hBm.out)
      clear bv kx; have kx := kx62; clear kx62
      clear hBb; have hBb := hBb_62; clear hBb_62
      clear hBm; have hBm := hBm_62; clear hBm_62
      go_wp2_with (fail)
      go_ret
      exact ⟨rfl, kx.out⟩

theorem sizes_any (a : ByteArray) (A : Option Addr) (n c : Nat) (ls : List (List UInt8)) (w : World) (hL : Ldr w) (hA : SL encT 1 w A n ls) :
    Calls Tryz.prog 7 #[.string a, .slice A n c] w fun e w' => e = .returned (.bool true) ∧ Below w.heap.size w w' := by
  have h := sizes_walk a.data.toList A n c ls w hL hA
  rw [sOf_data] at h
  exact h
end Go.Proofs.YtlinjanflenljaaGreatDoor
