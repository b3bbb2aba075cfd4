/- A shard behind ranges alone. -/
import Derived.Test.YtgnjnpddehdmcaaGreatDoorOpenL
import Derived.Test.YtgnjnpddehdmcaaGreatDoorShl
import Derived.Test.YtgnjnpddehdmcaaGreatDoorOwn
import Derived.Test.YtgnjnpddehdmcaaGreatDoorWkP
import Derived.Test.YtgnjnpddehdmcaaGreatDoorWkW
namespace Go.Proofs.YtgnjnpddehdmcaaGreatDoor
open Go.RowKit Go.Shelf
set_option linter.unusedSimpArgs false
set_option linter.unusedVariables false
set_option linter.unusedSectionVars false
set_option maxRecDepth 10000
set_option maxHeartbeats 16000000 in
theorem filled_any (A : Option Addr) (n c : Nat) (ol : List OwS) (v : World) (ho : OL v A n ol) (hn : n ≤ 8) (hok : ∀ o ∈ ol, okO o) : Calls Tryz.prog 6 #[.slice A n c, .slice none 0 0] v fun e w' => ∃ p, e = .returned (.pointer (some ⟨p.S, 0, none⟩)) ∧ ShW v.heap.size p (filS (ol.map (·.y))) w' ∧ Fil n (filS (ol.map (·.y))) ∧ Below v.heap.size v w' := by
 have hN := shNew_any 1 (by omega) (by omega) v
 replace ho := Lh ho; replace hok := Lh hok
 go_enter Tryz.func6, Tryz.ntmps6
 go_wp2_with (fail)
 refine hN.mono ?_
 rintro e V1 ⟨p, rfl, h1, k1⟩
 clear hN
 replace h1 := Lh h1; replace k1 := Lh k1
 go_wp2_with (fail)
 go_loopw [7] (fun i wr => ∃ (j : Nat) (q : Pl), j ≤ n ∧ i = .int .i64 j ∧ q.S = p.S ∧ ShW v.heap.size q (filS ((ol.take j).map (·.y))) wr ∧ Fil j (filS ((ol.take j).map (·.y))) ∧ Below v.heap.size v wr) (fun i _ => n - (intOf i).toNat)
 case atStart => exact ⟨0, p, by omega, rfl, rfl, h1.out, Fil.new, k1.out⟩
 case round =>
  clear h1 k1
  revert wr
  intro X hrel
  obtain ⟨j, q, hj, rfl, hS, hX, hF, kX⟩ := hrel
  by_cases hlt : j < n
  ·
   obtain ⟨b, o, y, rfl, hbl, hx, hcl⟩ := SL.at_ ho.out.sl hlt
   have hoy := ho.out.ok y (List.mem_of_getElem? hx)
   have hzy := hok.out y (List.mem_of_getElem? hx)
   have hnx : (ol.take (j + 1)).map (·.y) = (ol.take j).map (·.y) ++ [y.y] := by rw [List.take_add_one, hx, List.map_append]; rfl
   have s0 := hcl 0 _ rfl; have s1 := hcl 1 _ rfl; have s2 := hcl 2 _ rfl; have s3 := hcl 3 _ rfl
   rw [Nat.add_zero] at s0
   clear hcl hx
   obtain ⟨Y, hY⟩ : ∃ W, W = X.drew := ⟨_, rfl⟩
   have bY : Below X.heap.size X Y := by rw [hY]; exact (Below.refl _ _).drew
   have kY := kX.trans (bY.mono kX.size)
   have hYs := hX.below bY
   have hfn := hF.own hX.ok y.y
   rw [← filS_snoc, ← hnx] at hfn
   have how := shOwn_any hYs kY.size (Nat.le_trans hF.len (by omega)) y.y.r.1 y.y.r.2 hzy.1 y.A1 y.n1 y.c1 y.y.ks y.A2 y.n2 y.c2 y.y.cs (SL.keep hoy.1 kY) (SL.keep hoy.2 kY) (by have := hzy.2.1; omega) (by have := hzy.2.2.1; omega) (fun k hk => Nat.le_trans (hzy.2.2.2 k hk) (by omega)) (fun h0 k hk hf => by obtain ⟨b2, o2, e2, hl2, -⟩ := hoy.1.2 h0; rw [e2] at hk; injection hk with hk; have := (hYs.foot_lt k hf).1; simp only at hk; omega) (fun h0 k hk hf => by obtain ⟨b2, o2, e2, hl2, -⟩ := hoy.2.2 h0; rw [e2] at hk; injection hk with hk; have := (hYs.foot_lt k hf).1; simp only at hk; omega) hF.ord.inj
   rw [show ownX (filS ((ol.take j).map (·.y))) (y.y.r.1, y.y.r.2) y.y.ks y.y.cs = filS ((ol.take (j + 1)).map (·.y)) from by rw [hnx, filS_snoc]] at how
   rw [hS] at how
   have j0 : (0 : Int) ≤ j := by omega
   have j1 : (j : Int) < (n : Int) := by omega
   replace hX := Lh hX; replace kX := Lh kX; replace hYs := Lh hYs; replace kY := Lh kY; replace hY := Lh hY; replace hfn := Lh hfn; replace hF := Lh hF; replace hoy := Lh hoy; replace hzy := Lh hzy; replace hnx := Lh hnx
   clear bY
   go_wp2_with (fail)
   refine wp_region_held_drew (S := (fun W' : World => Below v.heap.size v W')) (by kernel_rfl) ?_ (fun hH => ?_)
   ·
    try rw [← hY.out]
    exact kY.out
   refine tl 0 hH ?_
   refine tl 1 hH ?_
   refine tl 2 hH ?_
   refine tl 3 hH ?_
   refine tl 4 hH ?_
   refine tk (i := 5) (v := ?_) (hy := .inl ⟨by rfl, by intro w hSw; have t0 := (hSw.cell (p := ⟨b, _, none⟩) hbl).trans s0; have t1 := (hSw.cell (p := ⟨b, _, none⟩) hbl).trans s1; go_simp; first | done | with_reducible rfl⟩) (hS := hH) (h := ?_)
   refine tl 6 hH ?_
   refine tl 7 hH ?_
   refine tl 8 hH ?_
   refine tl 9 hH ?_
   refine tk (i := 10) (v := ?_) (hy := .inl ⟨by rfl, by intro w hSw; have t2 := (hSw.cell (p := ⟨b, _, none⟩) hbl).trans s2; go_simp; first | done | with_reducible rfl⟩) (hS := hH) (h := ?_)
   refine tl 11 hH ?_
   refine tl 12 hH ?_
   refine tl 13 hH ?_
   refine tl 14 hH ?_
   refine tk (i := 15) (v := ?_) (hy := .inl ⟨by rfl, by intro w hSw; have t3 := (hSw.cell (p := ⟨b, _, none⟩) hbl).trans s3; go_simp; first | done | with_reducible rfl⟩) (hS := hH) (h := ?_)
   refine wpAnyH_ready (rs := [16]) (by kernel_rfl) (by simp) ?_
   refine AllReadyH.cons rfl (fun K hK => ?_) ?_
   ·
    clear hH
    try rw [← hY.out]
    go_simp
    refine how.mono ?_
    rintro e V ⟨rfl, q', ht⟩
    have hV := Lh ht.sh
    have hs2 := Lh (ht.same.trans hS)
    have kV := Lh (ht.bel hYs.out kY.out)
    clear how ht
    refine hK _ _ kV.out (fun hH => ?_)
    clear hK K
    refine wpAnyH_done (by kernel_rfl) ?_ _
    clear hH
    go_wp2_with (fail)
    exact ⟨⟨j + 1, q', by omega, by go_num, hs2.out, hV.out, hfn.out, kV.out⟩, by simp [intOf]; omega⟩
   exact AllReadyH.nil
  ·
   obtain rfl : j = n := by omega
   rw [List.take_of_length_le (by rw [ho.out.sl.1]; exact Nat.le_refl _)] at hX hF
   replace hX := Lh hX; replace hF := Lh hF; replace kX := Lh kX
   go_wp2_with (fail)
   go_loopw [8] (fun i wr => i = .int .i64 0 ∧ wr = X) (fun i _ => 0)
   case atStart => exact ⟨rfl, by first | rfl | trivial⟩
   case round =>
    revert wr
    intro Z hrel
    obtain ⟨rfl, hZ⟩ := hrel
    obtain rfl : Z = X := hZ
    go_wp2_with (fail)
    go_ret
    exact ⟨q, by rw [hS]; rfl, hX.out, hF.out, kX.out⟩
end Go.Proofs.YtgnjnpddehdmcaaGreatDoor
