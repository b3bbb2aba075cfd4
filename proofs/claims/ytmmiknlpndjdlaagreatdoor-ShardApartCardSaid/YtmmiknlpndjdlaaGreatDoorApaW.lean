/- The walk of ShardApart. -/
import Derived.Test.YtmmiknlpndjdlaaGreatDoorOpenL
import Derived.Test.YtmmiknlpndjdlaaGreatDoorFil
import Derived.Test.YtmmiknlpndjdlaaGreatDoorOth
namespace Go.Proofs.YtmmiknlpndjdlaaGreatDoor
open Go.RowKit Go.Shelf
set_option linter.unusedSimpArgs false
set_option linter.unusedVariables false
set_option linter.unusedSectionVars false
set_option maxRecDepth 10000
def Alt (c c' : Cd) : Prop := c' = { c with e := (c'.e.1, c'.e.2.1, c.e.2.2) }
theorem Alt.refl (c : Cd) : Alt c c := rfl
theorem Alt.trans {a b c : Cd} (h1 : Alt a b) (h2 : Alt b c) : Alt a c := by
 unfold Alt at *
 rw [h2, h1]
theorem Alt.key {c c' : Cd} (h : Alt c c') : c'.key = c.key ∧ c'.k = c.k ∧ c'.dl = c.dl ∧ c'.r = c.r := by unfold Alt at h; rw [h]; exact ⟨rfl, rfl, rfl, rfl⟩
theorem cd_set3 {W : World} {b : Nat} {c : Cd} (h : W.heap[b]? = some (.cells (cdV c) 39 (0, 0))) (z : Int) : (W.setCell ⟨b, 3, none⟩ (.int .i64 z)).heap[b]? = some (.cells (cdV { c with e := (z, c.e.2.1, c.e.2.2) }) 39 (0, 0)) := by
 rw [hpSet (i := 3) (v := .int .i64 z) h]
 rfl
theorem cd_set4 {W : World} {b : Nat} {c : Cd} (h : W.heap[b]? = some (.cells (cdV c) 39 (0, 0))) (z : Int) : (W.setCell ⟨b, 4, none⟩ (.int .i64 z)).heap[b]? = some (.cells (cdV { c with e := (c.e.1, z, c.e.2.2) }) 39 (0, 0)) := by
 rw [hpSet (i := 4) (v := .int .i64 z) h]
 rfl
theorem alt3 (c : Cd) (z : Int) : Alt c { c with e := (z, c.e.2.1, c.e.2.2) } := rfl
theorem alt4 (c : Cd) (z : Int) : Alt c { c with e := (c.e.1, z, c.e.2.2) } := rfl
attribute [-go_sem] Instr.loadAt Instr.storeAt
attribute [local go_sem] loadAt_other storeAt_other
set_option maxHeartbeats 32000000 in
theorem apart_walk (A : Option Addr) (n c : Nat) (ol : List OwS) (B : Option Addr) (m d : Nat) (cl : List CdS) (key : ByteArray) (v : World) (ho : OL v A n ol) (hc : CL v B m cl) : Calls Tryz.prog 3 #[.slice A n c, .slice B m d, .string key] v fun e w' => e = .returned (.bool true) ∧ Below v.heap.size v w' := by
 have hsh := short34_any A n c ol B m d cl v ho hc
 replace ho := Lib.hid ho; replace hc := Lib.hid hc
 go_enter Tryz.func3, Tryz.ntmps3
 go_wp2_with (fail)
 refine hsh.mono ?_
 rintro e V1 ⟨⟨bb, rfl, hbb⟩, k1⟩
 clear hsh
 replace k1 := Lib.hid k1
 cases bb with
 | false =>
  clear hbb
  go_wp2_with (fail)
  refine (works_any _).mono ?_
  rintro e W9 ⟨rfl, b9⟩
  have k9 := Lib.hid (k1.out.trans (b9.mono k1.out.size))
  clear b9
  go_wp2_with (fail)
  go_ret
  exact ⟨rfl, k9.out⟩
 | true =>
  have hS := Lib.hid (hbb rfl)
  clear hbb
  by_cases hky : 100 < key.size
  ·
   have q1 : ((100 : Int) < (key.size : Int)) = True := eq_true (by omega)
   replace hky := Lib.hid hky
   go_wp2_with (fail)
   refine (works_any _).mono ?_
   rintro e W9 ⟨rfl, b9⟩
   have k9 := Lib.hid (k1.out.trans (b9.mono k1.out.size))
   clear b9
   go_wp2_with (fail)
   go_ret
   exact ⟨rfl, k9.out⟩
  have q1 : ((100 : Int) < (key.size : Int)) = False := eq_false (by omega)
  replace hky := Lib.hid hky
  go_wp2_with (fail)
  clear q1
  have hF1 := filled_any A n c ol V1 (ho.out.keep k1.out) hS.out.1 hS.out.2.2.1
  refine hF1.mono ?_
  rintro e V2 ⟨p0, rfl, s1, f1, b2⟩
  clear hF1
  replace s1 := Lib.hid s1; replace f1 := Lib.hid f1
  have k2 := Lib.hid (k1.out.trans (b2.mono k1.out.size))
  have b2 := Lib.hid b2
  go_wp2_with (fail)
  have hF2 := filled_any A n c ol V2 (ho.out.keep k2.out) hS.out.1 hS.out.2.2.1
  refine hF2.mono ?_
  rintro e V3 ⟨q0, rfl, r1, g1, b3⟩
  clear hF2
  generalize filS (ol.map (·.y)) = x0 at *
  have hT := Lib.hid (show Two V1 V2.heap.size p0 q0 x0 x0 V3 from ⟨b2.out.trans (b3.mono b2.out.size), s1.out.below b3, r1, b2.out.size, b3.size, fun k hp hq => by have := (s1.out.foot_lt k hp).2; have := (r1.foot_lt k hq).1; omega⟩)
  have hL := Lib.hid (f1.out.lim hS.out.1)
  have hM := Lib.hid (show x0.mem = [] from f1.out.mem)
  clear s1 f1 r1 g1 b2 b3 k2
  obtain ⟨S1, hS1⟩ : ∃ z, z = p0.S := ⟨_, rfl⟩
  obtain ⟨S2, hS2⟩ : ∃ z, z = q0.S := ⟨_, rfl⟩
  rw [← hS2]
  rw [← hS1]
  replace hS1 := Lib.hid hS1; replace hS2 := Lib.hid hS2
  obtain ⟨B2, hB2⟩ : ∃ z, z = V2.heap.size := ⟨_, rfl⟩
  rw [← hB2] at hT
  clear hB2
  go_wp2_with (fail)
  go_loopw [9] (fun i wr => ∃ (j : Nat) (p q : Pl) (x y : Sh), j ≤ m ∧ i = .int .i64 j ∧ p.S = S1 ∧ q.S = S2 ∧ Two V1 B2 p q x y wr ∧ Sim key x y ∧ Lim j x ∧ Lim j y) (fun i _ => m - (intOf i).toNat)
  case atStart => exact ⟨0, p0, q0, x0, x0, by omega, rfl, hS1.out.symm, hS2.out.symm, hT.out, Sim.refl hM.out, hL.out, hL.out⟩
  case round =>
   have hm60 : m ≤ 60 := hS.out.2.1
   clear hT hL hM hS1 hS2
   revert wr
   intro X hrel
   obtain ⟨j, p, q, x, y, hj, rfl, hp, hq, hX, hsim, hLx, hLy⟩ := hrel
   replace hX := Lib.hid hX; replace hsim := Lib.hid hsim; replace hLx := Lib.hid hLx; replace hLy := Lib.hid hLy
   have kX := Lib.hid (k1.out.trans (hX.out.bel.mono k1.out.size))
   by_cases hlt : j < m
   ·
    have hcX := hc.out.keep kX.out
    obtain ⟨b, o, yy, rfl, hbl, hx, hcl⟩ := SL.at_ hcX.sl hlt
    obtain ⟨hsy, hoky⟩ := hcX.ok yy (List.mem_of_getElem? hx)
    have hszy := hS.out.2.2.2 yy (List.mem_of_getElem? hx)
    have hld := cd_load_at (fun j u hu => hcl j u hu)
    obtain ⟨cc, stp⟩ := yy
    simp only at hsy hoky hszy hld
    clear hcl hx hcX
    obtain ⟨ab, hab⟩ : ∃ z, z = X.heap.size := ⟨_, rfl⟩
    obtain ⟨X1, hX1⟩ : ∃ Z, Z = X.alloc (.cells (cdV cc) 39) := ⟨_, rfl⟩
    have bx : Below X.heap.size X X1 := by rw [hX1]; exact (Below.refl _ _).alloc (Nat.le_refl _) _
    have c1 := Lib.hid (show X1.heap[ab]? = some (.cells (cdV cc) 39 (0, 0)) by rw [hX1, hab]; exact hpNew _ _)
    have hX1' := Lib.hid (hX.out.below bx)
    have hav := Lib.hid (show V1.heap.size ≤ ab by rw [hab]; exact hX.out.bel.size)
    have hst := cd_store cc X X.heap.size rfl
    rw [← hX1] at hst
    have j0 : (0 : Int) ≤ j := by omega
    have j1 : (j : Int) < (m : Int) := by omega
    clear bx
    replace hX1 := Lib.hid hX1; replace hsy := Lib.hid hsy; replace hoky := Lib.hid hoky; replace hszy := Lib.hid hszy
    replace hab := Lib.hid hab
    go_upto_region 11 with (fail)
    rw [← hab.out]
    clear hst hld
    have t0 : X1.cell? ⟨ab, 0, none⟩ = some (.int .i64 cc.k) := blkC c1.out 0
    have tx := blkX c1.out
    by_cases hk1 : cc.k = 1
    ·
     have q1 : (cc.k = 1) = True := eq_true hk1
     have t3 : X1.cell? ⟨ab, 3, none⟩ = some (.int .i64 cc.e.1) := blkC c1.out 3
     have t4 : X1.cell? ⟨ab, 4, none⟩ = some (.int .i64 cc.e.2.1) := blkC c1.out 4
     have t6 : X1.cell? ⟨ab, 6, none⟩ = some (.string cc.key) := blkC c1.out 6
     have tf := blkF c1.out
     skip
     go_wp2_with (fail)
     clear t0 t3 t4 t6 tf tx
     go_loopw [11] (fun kk wr => ∃ (k : Nat) (c' : Cd), k ≤ cc.key.size ∧ kk = .int .i64 k ∧ Alt cc c' ∧ wr.heap[ab]? = some (.cells (cdV c') 39 (0, 0)) ∧ Two V1 B2 p q x y wr) (fun kk _ => cc.key.size - (intOf kk).toNat)
     case atStart => exact ⟨0, _, by omega, rfl, (alt4 _ _).trans (alt3 _ _), cd_set3 (cd_set4 c1.out _) _, (hX1'.out.set c1.out hav.out (by decide) 4 _).set (cd_set4 c1.out _) hav.out (by decide) 3 _⟩
     case round =>
      clear hX1' c1
      revert wr
      intro W hrel
      obtain ⟨k, c', hk, rfl, hal, hB, hT⟩ := hrel
      replace hal := Lib.hid hal; replace hT := Lib.hid hT; replace hB := Lib.hid hB
      obtain ⟨hak, hakk, had, har⟩ := Alt.key hal.out
      have t6 : W.cell? ⟨ab, 6, none⟩ = some (.string cc.key) := hak ▸ blkC hB.out 6
      have tx := blkX hB.out
      have tf := blkF hB.out
      replace hak := Lib.hid hak; replace hakk := Lib.hid hakk; replace had := Lib.hid had; replace har := Lib.hid har
      have hksz := hszy.out.2
      by_cases hkl : k < cc.key.size
      ·
       have k0 : (0 : Int) ≤ k := by omega
       have k1' : (k : Int) < (cc.key.size : Int) := by omega
       obtain ⟨Y, hY⟩ : ∃ Z, Z = W.drew := ⟨_, rfl⟩
       have by_ : Below W.heap.size W Y := by rw [hY]; exact (Below.refl _ _).drew
       have hTY := Lib.hid (hT.out.below by_)
       have hBY := Lib.hid ((by_.block _ (blkX hB.out)).trans hB.out)
       go_wp2_with (fail)
       clear t6 tx tf
       have t6 : Y.cell? ⟨ab, 6, none⟩ = some (.string cc.key) := hak.out ▸ blkC hBY.out 6
       have t3 : Y.cell? ⟨ab, 3, none⟩ = some (.int .i64 c'.e.1) := blkC hBY.out 3
       have tx := blkX hBY.out
       have tf := blkF hBY.out
       clear by_
       replace hY := Lib.hid hY
       refine wp_region_any (by kernel_rfl) ?_
       try (change wpAny _ _ _ _ _ _ _ (World.drew _))
       try rw [← hY.out]
       refine wpAny_take (i := 0) (v := ?_) rfl (by kernel_rfl) (by kernel_rfl) (by kernel_rfl) (fun _ _ _ h => h) (Or.inl ⟨by rfl, by intro w; go_simp; first | done | with_reducible rfl⟩) ?_
       simp only [List.getElem_toArray, List.getElem_cons_succ, List.getElem_cons_zero, Act.put, List.setIfInBounds_toArray, List.set_cons_zero, List.set_cons_succ]
       refine wpAny_take (i := 1) (v := ?_) rfl (by kernel_rfl) (by kernel_rfl) (by kernel_rfl) (fun _ _ _ h => h) (Or.inl ⟨by rfl, by intro w; go_simp; first | done | with_reducible rfl⟩) ?_
       simp only [List.getElem_toArray, List.getElem_cons_succ, List.getElem_cons_zero, Act.put, List.setIfInBounds_toArray, List.set_cons_zero, List.set_cons_succ]
       refine wpAny_take (i := 4) (v := ?_) rfl (by kernel_rfl) (by kernel_rfl) (by kernel_rfl) (fun _ _ _ h => h) (Or.inl ⟨by rfl, by intro w; go_simp; first | done | with_reducible rfl⟩) ?_
       simp only [List.getElem_toArray, List.getElem_cons_succ, List.getElem_cons_zero, Act.put, List.setIfInBounds_toArray, List.set_cons_zero, List.set_cons_succ]
       refine wpAny_take (i := 6) (v := ?_) rfl (by kernel_rfl) (by kernel_rfl) (by kernel_rfl) (fun _ _ _ h => h) (Or.inl ⟨by rfl, by intro w; go_simp; first | done | with_reducible rfl⟩) ?_
       simp only [List.getElem_toArray, List.getElem_cons_succ, List.getElem_cons_zero, Act.put, List.setIfInBounds_toArray, List.set_cons_zero, List.set_cons_succ]
       refine wpAny_ready (rs := [2, 5]) (by kernel_rfl) (by simp) ?_
       refine AllReady.cons rfl (fun K hK => ?_) ?_
       ·
        have hK' := hK; clear hK; have hK := hK'; clear hK'
        go_simp
        refine hK _ _ ?_
        clear hK K
        refine wpAny_take (i := 3) (v := ?_) rfl (by kernel_rfl) (by kernel_rfl) (by kernel_rfl) (fun _ _ _ h => h) (Or.inl ⟨by rfl, by intro w; go_simp; first | done | with_reducible rfl⟩) ?_
        simp only [List.getElem_toArray, List.getElem_cons_succ, List.getElem_cons_zero, Act.put, List.setIfInBounds_toArray, List.set_cons_zero, List.set_cons_succ]
        refine wpAny_ready (rs := [5]) (by kernel_rfl) (by simp) ?_
        refine AllReady.cons rfl (fun K hK => ?_) ?_
        ·
         have hK' := hK; clear hK; have hK := hK'; clear hK'
         go_simp
         refine hK _ _ ?_
         clear hK K
         refine wpAny_ready (rs := [7]) (by kernel_rfl) (by simp) ?_
         refine AllReady.cons rfl (fun K hK => ?_) ?_
         ·
          have hK' := hK; clear hK; have hK := hK'; clear hK'
          go_simp
          refine hK _ _ ?_
          clear hK K
          refine wpAny_take (i := 8) (v := ?_) rfl (by kernel_rfl) (by kernel_rfl) (by kernel_rfl) (fun _ _ _ h => h) (Or.inl ⟨by rfl, by intro w; go_simp; first | done | with_reducible rfl⟩) ?_
          simp only [List.getElem_toArray, List.getElem_cons_succ, List.getElem_cons_zero, Act.put, List.setIfInBounds_toArray, List.set_cons_zero, List.set_cons_succ]
          refine wpAny_take (i := 9) (v := ?_) rfl (by kernel_rfl) (by kernel_rfl) (by kernel_rfl) (fun _ _ _ h => h) (Or.inl ⟨by rfl, by intro w; go_simp; first | done | with_reducible rfl⟩) ?_
          simp only [List.getElem_toArray, List.getElem_cons_succ, List.getElem_cons_zero, Act.put, List.setIfInBounds_toArray, List.set_cons_zero, List.set_cons_succ]
          refine wpAny_take (i := 10) (v := ?_) rfl (by kernel_rfl) (by kernel_rfl) (by kernel_rfl) (fun _ _ _ h => h) (Or.inl ⟨by rfl, by intro w; go_simp; first | done | with_reducible rfl⟩) ?_
          simp only [List.getElem_toArray, List.getElem_cons_succ, List.getElem_cons_zero, Act.put, List.setIfInBounds_toArray, List.set_cons_zero, List.set_cons_succ]
          refine wpAny_take (i := 11) (v := ?_) rfl (by kernel_rfl) (by kernel_rfl) (by kernel_rfl) (fun _ _ _ h => h) (Or.inl ⟨by rfl, by intro w; go_simp; first | done | with_reducible rfl⟩) ?_
          simp only [List.getElem_toArray, List.getElem_cons_succ, List.getElem_cons_zero, Act.put, List.setIfInBounds_toArray, List.set_cons_zero, List.set_cons_succ]
          refine wpAny_take (i := 12) (v := ?_) rfl (by kernel_rfl) (by kernel_rfl) (by kernel_rfl) (fun _ _ _ h => h) (Or.inl ⟨by rfl, by intro w; go_simp; first | done | with_reducible rfl⟩) ?_
          simp only [List.getElem_toArray, List.getElem_cons_succ, List.getElem_cons_zero, Act.put, List.setIfInBounds_toArray, List.set_cons_zero, List.set_cons_succ]
          refine wpAny_take (i := 13) (v := ?_) rfl (by kernel_rfl) (by kernel_rfl) (by kernel_rfl) (fun _ _ _ h => h) (Or.inl ⟨by rfl, by intro w; go_simp; first | done | with_reducible rfl⟩) ?_
          simp only [List.getElem_toArray, List.getElem_cons_succ, List.getElem_cons_zero, Act.put, List.setIfInBounds_toArray, List.set_cons_zero, List.set_cons_succ]
          refine wpAny_ready (rs := [14]) (by kernel_rfl) (by simp) ?_
          refine AllReady.cons rfl (fun K hK => ?_) ?_
          ·
           have hK' := hK; clear hK; have hK := hK'; clear hK'
           go_simp
           refine hK _ _ ?_
           clear hK K
           refine wpAny_done (by kernel_rfl) ?_ _
           go_wp2_with (fail)
           exact ⟨⟨k + 1, _, by omega, by go_num, hal.out.trans (alt3 _ _), cd_set3 hBY.out _, hTY.out.set hBY.out hav.out (by decide) 3 _⟩, by simp [intOf]; omega⟩
          exact AllReady.nil
         exact AllReady.nil
        exact AllReady.nil
       refine AllReady.cons rfl (fun K hK => ?_) ?_
       ·
        have hK' := hK; clear hK; have hK := hK'; clear hK'
        go_simp
        refine hK _ _ ?_
        clear hK K
        refine wpAny_ready (rs := [2, 7]) (by kernel_rfl) (by simp) ?_
        refine AllReady.cons rfl (fun K hK => ?_) ?_
        ·
         have hK' := hK; clear hK; have hK := hK'; clear hK'
         go_simp
         refine hK _ _ ?_
         clear hK K
         refine wpAny_take (i := 3) (v := ?_) rfl (by kernel_rfl) (by kernel_rfl) (by kernel_rfl) (fun _ _ _ h => h) (Or.inl ⟨by rfl, by intro w; go_simp; first | done | with_reducible rfl⟩) ?_
         simp only [List.getElem_toArray, List.getElem_cons_succ, List.getElem_cons_zero, Act.put, List.setIfInBounds_toArray, List.set_cons_zero, List.set_cons_succ]
         refine wpAny_ready (rs := [7]) (by kernel_rfl) (by simp) ?_
         refine AllReady.cons rfl (fun K hK => ?_) ?_
         ·
          have hK' := hK; clear hK; have hK := hK'; clear hK'
          go_simp
          refine hK _ _ ?_
          clear hK K
          refine wpAny_take (i := 8) (v := ?_) rfl (by kernel_rfl) (by kernel_rfl) (by kernel_rfl) (fun _ _ _ h => h) (Or.inl ⟨by rfl, by intro w; go_simp; first | done | with_reducible rfl⟩) ?_
          simp only [List.getElem_toArray, List.getElem_cons_succ, List.getElem_cons_zero, Act.put, List.setIfInBounds_toArray, List.set_cons_zero, List.set_cons_succ]
          refine wpAny_take (i := 9) (v := ?_) rfl (by kernel_rfl) (by kernel_rfl) (by kernel_rfl) (fun _ _ _ h => h) (Or.inl ⟨by rfl, by intro w; go_simp; first | done | with_reducible rfl⟩) ?_
          simp only [List.getElem_toArray, List.getElem_cons_succ, List.getElem_cons_zero, Act.put, List.setIfInBounds_toArray, List.set_cons_zero, List.set_cons_succ]
          refine wpAny_take (i := 10) (v := ?_) rfl (by kernel_rfl) (by kernel_rfl) (by kernel_rfl) (fun _ _ _ h => h) (Or.inl ⟨by rfl, by intro w; go_simp; first | done | with_reducible rfl⟩) ?_
          simp only [List.getElem_toArray, List.getElem_cons_succ, List.getElem_cons_zero, Act.put, List.setIfInBounds_toArray, List.set_cons_zero, List.set_cons_succ]
          refine wpAny_take (i := 11) (v := ?_) rfl (by kernel_rfl) (by kernel_rfl) (by kernel_rfl) (fun _ _ _ h => h) (Or.inl ⟨by rfl, by intro w; go_simp; first | done | with_reducible rfl⟩) ?_
          simp only [List.getElem_toArray, List.getElem_cons_succ, List.getElem_cons_zero, Act.put, List.setIfInBounds_toArray, List.set_cons_zero, List.set_cons_succ]
          refine wpAny_take (i := 12) (v := ?_) rfl (by kernel_rfl) (by kernel_rfl) (by kernel_rfl) (fun _ _ _ h => h) (Or.inl ⟨by rfl, by intro w; go_simp; first | done | with_reducible rfl⟩) ?_
          simp only [List.getElem_toArray, List.getElem_cons_succ, List.getElem_cons_zero, Act.put, List.setIfInBounds_toArray, List.set_cons_zero, List.set_cons_succ]
          refine wpAny_take (i := 13) (v := ?_) rfl (by kernel_rfl) (by kernel_rfl) (by kernel_rfl) (fun _ _ _ h => h) (Or.inl ⟨by rfl, by intro w; go_simp; first | done | with_reducible rfl⟩) ?_
          simp only [List.getElem_toArray, List.getElem_cons_succ, List.getElem_cons_zero, Act.put, List.setIfInBounds_toArray, List.set_cons_zero, List.set_cons_succ]
          refine wpAny_ready (rs := [14]) (by kernel_rfl) (by simp) ?_
          refine AllReady.cons rfl (fun K hK => ?_) ?_
          ·
           have hK' := hK; clear hK; have hK := hK'; clear hK'
           go_simp
           refine hK _ _ ?_
           clear hK K
           refine wpAny_done (by kernel_rfl) ?_ _
           go_wp2_with (fail)
           exact ⟨⟨k + 1, _, by omega, by go_num, hal.out.trans (alt3 _ _), cd_set3 hBY.out _, hTY.out.set hBY.out hav.out (by decide) 3 _⟩, by simp [intOf]; omega⟩
          exact AllReady.nil
         exact AllReady.nil
        refine AllReady.cons rfl (fun K hK => ?_) ?_
        ·
         have hK' := hK; clear hK; have hK := hK'; clear hK'
         go_simp
         refine hK _ _ ?_
         clear hK K
         refine wpAny_take (i := 8) (v := ?_) rfl (by kernel_rfl) (by kernel_rfl) (by kernel_rfl) (fun _ _ _ h => h) (Or.inl ⟨by rfl, by intro w; go_simp; first | done | with_reducible rfl⟩) ?_
         simp only [List.getElem_toArray, List.getElem_cons_succ, List.getElem_cons_zero, Act.put, List.setIfInBounds_toArray, List.set_cons_zero, List.set_cons_succ]
         refine wpAny_ready (rs := [2]) (by kernel_rfl) (by simp) ?_
         refine AllReady.cons rfl (fun K hK => ?_) ?_
         ·
          have hK' := hK; clear hK; have hK := hK'; clear hK'
          go_simp
          refine hK _ _ ?_
          clear hK K
          refine wpAny_take (i := 3) (v := ?_) rfl (by kernel_rfl) (by kernel_rfl) (by kernel_rfl) (fun _ _ _ h => h) (Or.inl ⟨by rfl, by intro w; go_simp; first | done | with_reducible rfl⟩) ?_
          simp only [List.getElem_toArray, List.getElem_cons_succ, List.getElem_cons_zero, Act.put, List.setIfInBounds_toArray, List.set_cons_zero, List.set_cons_succ]
          refine wpAny_take (i := 9) (v := ?_) rfl (by kernel_rfl) (by kernel_rfl) (by kernel_rfl) (fun _ _ _ h => h) (Or.inl ⟨by rfl, by intro w; go_simp; first | done | with_reducible rfl⟩) ?_
          simp only [List.getElem_toArray, List.getElem_cons_succ, List.getElem_cons_zero, Act.put, List.setIfInBounds_toArray, List.set_cons_zero, List.set_cons_succ]
          refine wpAny_take (i := 10) (v := ?_) rfl (by kernel_rfl) (by kernel_rfl) (by kernel_rfl) (fun _ _ _ h => h) (Or.inl ⟨by rfl, by intro w; go_simp; first | done | with_reducible rfl⟩) ?_
          simp only [List.getElem_toArray, List.getElem_cons_succ, List.getElem_cons_zero, Act.put, List.setIfInBounds_toArray, List.set_cons_zero, List.set_cons_succ]
          refine wpAny_take (i := 11) (v := ?_) rfl (by kernel_rfl) (by kernel_rfl) (by kernel_rfl) (fun _ _ _ h => h) (Or.inl ⟨by rfl, by intro w; go_simp; first | done | with_reducible rfl⟩) ?_
          simp only [List.getElem_toArray, List.getElem_cons_succ, List.getElem_cons_zero, Act.put, List.setIfInBounds_toArray, List.set_cons_zero, List.set_cons_succ]
          refine wpAny_take (i := 12) (v := ?_) rfl (by kernel_rfl) (by kernel_rfl) (by kernel_rfl) (fun _ _ _ h => h) (Or.inl ⟨by rfl, by intro w; go_simp; first | done | with_reducible rfl⟩) ?_
          simp only [List.getElem_toArray, List.getElem_cons_succ, List.getElem_cons_zero, Act.put, List.setIfInBounds_toArray, List.set_cons_zero, List.set_cons_succ]
          refine wpAny_take (i := 13) (v := ?_) rfl (by kernel_rfl) (by kernel_rfl) (by kernel_rfl) (fun _ _ _ h => h) (Or.inl ⟨by rfl, by intro w; go_simp; first | done | with_reducible rfl⟩) ?_
          simp only [List.getElem_toArray, List.getElem_cons_succ, List.getElem_cons_zero, Act.put, List.setIfInBounds_toArray, List.set_cons_zero, List.set_cons_succ]
          refine wpAny_ready (rs := [14]) (by kernel_rfl) (by simp) ?_
          refine AllReady.cons rfl (fun K hK => ?_) ?_
          ·
           have hK' := hK; clear hK; have hK := hK'; clear hK'
           go_simp
           refine hK _ _ ?_
           clear hK K
           refine wpAny_done (by kernel_rfl) ?_ _
           go_wp2_with (fail)
           exact ⟨⟨k + 1, _, by omega, by go_num, hal.out.trans (alt3 _ _), cd_set3 hBY.out _, hTY.out.set hBY.out hav.out (by decide) 3 _⟩, by simp [intOf]; omega⟩
          exact AllReady.nil
         exact AllReady.nil
        exact AllReady.nil
       exact AllReady.nil
      ·
       obtain rfl : k = cc.key.size := by omega
       have t3 : W.cell? ⟨ab, 3, none⟩ = some (.int .i64 c'.e.1) := blkC hB.out 3
       have t7 : W.cell? ⟨ab, 7, none⟩ = some (.int .i64 cc.dl) := had.out ▸ blkC hB.out 7
       have tx' := tx
       go_upto_region 20 with (fail)
       clear t3 t6 t7 tx tf tx'
       obtain ⟨zz, hzz⟩ : ∃ z, z = wrap64 (wrap64 (3 * c'.e.1) - bits BinOp.and IntKind.i64 cc.dl 1) := ⟨_, rfl⟩
       rw [← hzz]
       obtain ⟨W2, hW2⟩ : ∃ Z, Z = W.setCell ⟨ab, 3, none⟩ (.int .i64 zz) := ⟨_, rfl⟩
       rw [← hW2]
       obtain ⟨cv, hcv⟩ : ∃ z, z = { c' with e := (zz, c'.e.2.1, c'.e.2.2) } := ⟨_, rfl⟩
       have hB2 := cd_set3 hB.out zz
       have hT2 := hT.out.set hB.out hav.out (by decide) 3 (.int .i64 zz)
       rw [← hW2, ← hcv] at hB2
       rw [← hW2] at hT2
       have hal2 := hal.out.trans (alt3 c' zz)
       rw [← hcv] at hal2
       clear hal hB hT hak hakk had har
       have hal := Lib.hid hal2; have hB := Lib.hid hB2; have hT := Lib.hid hT2
       clear hal2 hB2 hT2
       replace hzz := Lib.hid hzz; replace hW2 := Lib.hid hW2; replace hcv := Lib.hid hcv
       obtain ⟨hak, hakk, had, har⟩ := Alt.key hal.out
       have hld := cd_load hB.out
       have hap := ap12_any hT.out.s hLx.out.a0 (by have := hLx.out.a1; have := hS.out.2.1; omega) (by have := hLx.out.own; omega) (by exact hT.out.bel.size) cv (by rw [hakk]; exact .inl hk1) (by unfold szCd; rw [hak, har]; exact hszy.out) (by rw [had]; exact hoky.out.2.1.1) (by rw [had]; exact hoky.out.2.1.2)
       rw [hp] at hap
       replace hak := Lib.hid hak; replace hakk := Lib.hid hakk; replace had := Lib.hid had; replace har := Lib.hid har
       go_wp2_with (fail)
       clear hld
       refine hap.mono ?_
       rintro e Y ⟨p', rfl, ht⟩
       clear hap
       have hTY := hT.out.sTo ht
       have hBY := ht.cells hT.out.s hB.out (by decide)
       have hp' : p'.S = S1 := ht.same.trans hp
       clear ht
       obtain ⟨rr, hrr⟩ : ∃ z, z = apR x cv := ⟨_, rfl⟩
       obtain ⟨x', hx'⟩ : ∃ z, z = apX x cv := ⟨_, rfl⟩
       rw [← hrr]
       rw [← hx'] at hTY
       obtain ⟨r1, r2, r3⟩ := rr
       simp only [rpV]
       obtain ⟨Y1, hY1⟩ : ∃ Z, Z = Y.alloc (.cells #[.int .i64 r1, .int .i64 r2, .string r3] 41) := ⟨_, rfl⟩
       have by1 : Below Y.heap.size Y Y1 := by rw [hY1]; exact (Below.refl _ _).alloc (Nat.le_refl _) _
       obtain ⟨rb, hrb⟩ : ∃ z, z = Y.heap.size := ⟨_, rfl⟩
       have hR := Lib.hid (show Y1.heap[rb]? = some (.cells #[.int .i64 r1, .int .i64 r2, .string r3] 41 (0, 0)) by rw [hY1, hrb]; exact hpNew _ _)
       have hT1 := hTY.below by1
       have hB1 := (by1.block _ (blkX hBY)).trans hBY
       clear hTY hBY by1
       obtain ⟨Z, hZ⟩ : ∃ Z, Z = Y1.drew := ⟨_, rfl⟩
       have bz : Below Y1.heap.size Y1 Z := by rw [hZ]; exact (Below.refl _ _).drew
       have hT2 := Lib.hid (hT1.below bz)
       have hB2 := Lib.hid ((bz.block _ (blkX hB1)).trans hB1)
       replace hR := Lib.hid ((bz.block _ (blkX hR.out)).trans hR.out)
       clear bz hT1 hB1
       have hLx' := Lib.hid (show Lim (j + 1) x' from hx' ▸ hLx.out.ap cv)
       have hSt := shState_any hT2.out.s (by have := hLx'.out.own; omega) (by rw [hLx'.out.giv]; simp) (by rw [hLx'.out.tak]; simp) (by rw [hLx'.out.giv]; simp) (by rw [hLx'.out.tak]; simp)
       rw [hp'] at hSt
       replace hp' := Lib.hid hp'
       replace hrr := Lib.hid hrr; replace hx' := Lib.hid hx'; replace hY1 := Lib.hid hY1; replace hrb := Lib.hid hrb; replace hZ := Lib.hid hZ
       go_upto_region 21 with (fail)
       rw [← hrb.out, ← hY1.out]
       refine wp_region_held_drew (S := (fun W' : World => W'.heap[ab]? = some (.cells (cdV cv) 39 (0, 0)))) (by kernel_rfl) ?_ (fun hH => ?_)
       ·
        try rw [← hZ.out]
        exact hB2.out
       refine tl 0 hH ?_
       refine tk (i := 2) (v := ?_) (hy := .inl ⟨by rfl, by intro w hSw; have ld := cd_load hSw; go_simp; first | done | with_reducible rfl⟩) (hS := hH) (h := ?_)
       refine wpAnyH_ready (rs := [1]) (by kernel_rfl) (by simp) ?_
       refine AllReadyH.cons rfl (fun K hK => ?_) ?_
       ·
        clear hH
        try rw [← hZ.out]
        go_simp
        refine hSt.mono ?_
        rintro e U ⟨AR, cR, A1, c1, A2, c2, A3, c3, AG, cG, AT, cT, rfl, hU⟩
        clear hSt
        have hTU := Lib.hid (hT2.out.below hU.bel)
        have hBU := Lib.hid ((hU.bel.block _ (blkX hB2.out)).trans hB2.out)
        have hRU := Lib.hid ((hU.bel.block _ (blkX hR.out)).trans hR.out)
        have hot := other_any x' cv AR cR A1 c1 A2 c2 A3 c3 AG cG AT cT U (SL.of_own encM_len hU.o3 rfl) (by have := hLx'.out.mem; have := hS.out.2.1; omega)
        clear hU
        refine hK _ _ hBU.out (fun hH => ?_)
        clear hK K
        refine wpAnyH_ready (rs := [3]) (by kernel_rfl) (by simp) ?_
        refine AllReadyH.cons rfl (fun K hK => ?_) ?_
        ·
         clear hH
         go_simp
         refine hot.mono ?_
         rintro e U2 ⟨rfl, bu⟩
         clear hot
         have hTW := Lib.hid (hTU.out.below bu)
         have hBW := Lib.hid ((bu.block _ (blkX hBU.out)).trans hBU.out)
         have hRW := Lib.hid ((bu.block _ (blkX hRU.out)).trans hRU.out)
         clear bu
         refine hK _ _ hBW.out (fun hH => ?_)
         clear hK K
         refine wpAnyH_done (by kernel_rfl) ?_ _
         clear hH
         clear hT2 hB2 hR hTU hBU hRU hT hB
         cases hoth : otherB x'.mem cv with
         | true =>
          go_wp2_with (fail)
          refine (works_any _).mono ?_
          rintro e W9 ⟨rfl, b9⟩
          have k9 := Lib.hid ((k1.out.trans (hTW.out.bel.mono k1.out.size)).trans (b9.mono (k1.out.trans (hTW.out.bel.mono k1.out.size)).size))
          clear b9
          go_wp2_with (fail)
          go_ret
          exact ⟨rfl, k9.out⟩
         | false =>
          have hno := noO_of hoth
          replace hoth := Lib.hid hoth
          obtain ⟨Z3, hZ3⟩ : ∃ Z, Z = U2.drew := ⟨_, rfl⟩
          have bz : Below U2.heap.size U2 Z3 := by rw [hZ3]; exact (Below.refl _ _).drew
          have hT3 := Lib.hid (hTW.out.below bz)
          have hB3 := Lib.hid ((bz.block _ (blkX hBW.out)).trans hBW.out)
          have hR3 := Lib.hid ((bz.block _ (blkX hRW.out)).trans hRW.out)
          clear bz hTW hBW hRW
          replace hZ3 := Lib.hid hZ3
          by_cases hke : cv.key = key
          ·
           subst hke
           obtain ⟨sr, sX⟩ := ap_sim (c := cv) hsim.out (by rw [← hx'.out]; exact hno) (by have := hLx.out.mem; have := hS.out.2.1; omega) (by have := hLy.out.mem; have := hS.out.2.1; omega)
           have hak' := hak.out; have hakk' := hakk.out; have had' := had.out; have har' := har.out
           have hap2 := ap12_any hT3.out.r hLy.out.a0 (by have := hLy.out.a1; have := hS.out.2.1; omega) (by have := hLy.out.own; omega) hT3.out.bw cv (by rw [hakk']; exact .inl hk1) (by unfold szCd; rw [hak', har']; exact hszy.out) (by rw [had']; exact hoky.out.2.1.1) (by rw [had']; exact hoky.out.2.1.2)
           rw [sr, ← hrr.out, hq] at hap2
           rw [← hx'.out] at sX
           simp only [rpV] at hap2
           have hLy' := Lib.hid (hLy.out.ap cv)
           replace sX := Lib.hid sX
           clear hno sr hak' hakk' had' har'
           go_wp2_with (fail)
           refine wp_region_held_drew (S := (fun W' : World => W'.heap[ab]? = some (.cells (cdV cv) 39 (0, 0)) ∧ W'.heap[rb]? = some (.cells #[.int .i64 r1, .int .i64 r2, .string r3] 41 (0, 0)))) (by kernel_rfl) ?_ (fun hH => ?_)
           ·
            try rw [← hZ3.out]
            exact ⟨hB3.out, hR3.out⟩
           refine tl 0 hH ?_
           refine tk (i := 1) (v := ?_) (hy := .inl ⟨by rfl, by intro w hSw; have ua : w.cell? ⟨ab, 6, none⟩ = some (.string cv.key) := blkC hSw.1 6; go_simp; first | done | with_reducible rfl⟩) (hS := hH) (h := ?_)
           refine tl 2 hH ?_
           refine tl 3 hH ?_
           refine tl 4 hH ?_
           refine tl 5 hH ?_
           refine tk (i := 6) (v := ?_) (hy := .inl ⟨by rfl, by intro w hSw; have ld := cd_load hSw.1; go_simp; first | done | with_reducible rfl⟩) (hS := hH) (h := ?_)
           refine tk (i := 8) (v := ?_) (hy := .inl ⟨by rfl, by intro w hSw; have u0 : w.cell? ⟨rb, 0, none⟩ = some (.int .i64 r1) := blkC hSw.2 0; have u1 : w.cell? ⟨rb, 1, none⟩ = some (.int .i64 r2) := blkC hSw.2 1; have u2 : w.cell? ⟨rb, 2, none⟩ = some (.string r3) := blkC hSw.2 2; go_simp; first | done | with_reducible rfl⟩) (hS := hH) (h := ?_)
           refine wpAnyH_ready (rs := [7]) (by kernel_rfl) (by simp) ?_
           refine AllReadyH.cons rfl (fun K hK => ?_) ?_
           ·
            clear hH
            try rw [← hZ3.out]
            go_simp
            refine hap2.mono ?_
            rintro e U4 ⟨q', rfl, ht⟩
            have hTV := Lib.hid (hT3.out.rTo ht)
            have hBV := Lib.hid (ht.cells hT3.out.r hB3.out (by decide))
            have hRV := Lib.hid (ht.cells hT3.out.r hR3.out (by decide))
            have hq' := Lib.hid (ht.same.trans hq)
            clear ht hap2
            refine hK _ _ ⟨hBV.out, hRV.out⟩ (fun hH => ?_)
            clear hK K
            refine tl 9 hH ?_
            refine tl 10 hH ?_
            refine wpAnyH_done (by kernel_rfl) ?_ _
            clear hH
            go_wp2_with (fail)
            exact ⟨⟨j + 1, p', q', x', _, by omega, by go_num, hp'.out, hq'.out, hTV.out, sX.out, hLx'.out, hLy'.out⟩, by simp [intOf]; omega⟩
           exact AllReadyH.nil
          ·
           have hke' : (cv.key.toList == key.toList) = false := by rw [tl_eq]; exact decide_eq_false hke
           have sX := Lib.hid (show Sim key x' y from hx'.out ▸ ap_far (c := cv) hsim.out hke)
           clear hno
           go_wp2_with (fail)
           refine wp_region_held_drew (S := (fun W' : World => W'.heap[ab]? = some (.cells (cdV cv) 39 (0, 0)) ∧ W'.heap[rb]? = some (.cells #[.int .i64 r1, .int .i64 r2, .string r3] 41 (0, 0)))) (by kernel_rfl) ?_ (fun hH => ?_)
           ·
            try rw [← hZ3.out]
            exact ⟨hB3.out, hR3.out⟩
           refine tl 0 hH ?_
           refine tk (i := 1) (v := ?_) (hy := .inl ⟨by rfl, by intro w hSw; have ua : w.cell? ⟨ab, 6, none⟩ = some (.string cv.key) := blkC hSw.1 6; go_simp; first | done | with_reducible rfl⟩) (hS := hH) (h := ?_)
           refine tl 2 hH ?_
           refine tl 3 hH ?_
           refine tl 4 hH ?_
           refine ts 5 hH ?_
           refine ts 6 hH ?_
           refine ts 7 hH ?_
           refine ts 8 hH ?_
           refine ts 9 hH ?_
           refine tl 10 hH ?_
           refine wpAnyH_done (by kernel_rfl) ?_ _
           clear hH
           go_wp2_with (fail)
           try rw [← hZ3.out]
           exact ⟨⟨j + 1, p', q, x', y, by omega, by go_num, hp'.out, hq, hT3.out, sX.out, hLx'.out, hLy.out.le (by omega)⟩, by simp [intOf]; omega⟩
        exact AllReadyH.nil
       exact AllReadyH.nil
    ·
     have hk1' : (cc.k == 1) = false := by simp [hk1]
     by_cases hk2 : cc.k = 2
     ·
      have q2 : (cc.k = 2) = True := eq_true hk2
      go_upto_region 20 with (fail)
      clear t0 tx
      obtain ⟨cv, hcv⟩ : ∃ z, z = cc := ⟨_, rfl⟩
      have hal := Alt.refl cc
      have hB := c1.out; have hT := hX1'
      rw [← hcv] at hB
      have hal : Alt cc cv := by rw [hcv]; exact hal
      replace hal := Lib.hid hal; replace hB := Lib.hid hB; replace hcv := Lib.hid hcv
      clear c1 hX1'
      obtain ⟨hak, hakk, had, har⟩ := Alt.key hal.out
      have hld := cd_load hB.out
      have hap := ap12_any hT.out.s hLx.out.a0 (by have := hLx.out.a1; have := hS.out.2.1; omega) (by have := hLx.out.own; omega) (by exact hT.out.bel.size) cv (by rw [hakk]; exact .inr hk2) (by unfold szCd; rw [hak, har]; exact hszy.out) (by rw [had]; exact hoky.out.2.1.1) (by rw [had]; exact hoky.out.2.1.2)
      rw [hp] at hap
      replace hak := Lib.hid hak; replace hakk := Lib.hid hakk; replace had := Lib.hid had; replace har := Lib.hid har
      go_wp2_with (fail)
      clear hld
      refine hap.mono ?_
      rintro e Y ⟨p', rfl, ht⟩
      clear hap
      have hTY := hT.out.sTo ht
      have hBY := ht.cells hT.out.s hB.out (by decide)
      have hp' : p'.S = S1 := ht.same.trans hp
      clear ht
      obtain ⟨rr, hrr⟩ : ∃ z, z = apR x cv := ⟨_, rfl⟩
      obtain ⟨x', hx'⟩ : ∃ z, z = apX x cv := ⟨_, rfl⟩
      rw [← hrr]
      rw [← hx'] at hTY
      obtain ⟨r1, r2, r3⟩ := rr
      simp only [rpV]
      obtain ⟨Y1, hY1⟩ : ∃ Z, Z = Y.alloc (.cells #[.int .i64 r1, .int .i64 r2, .string r3] 41) := ⟨_, rfl⟩
      have by1 : Below Y.heap.size Y Y1 := by rw [hY1]; exact (Below.refl _ _).alloc (Nat.le_refl _) _
      obtain ⟨rb, hrb⟩ : ∃ z, z = Y.heap.size := ⟨_, rfl⟩
      have hR := Lib.hid (show Y1.heap[rb]? = some (.cells #[.int .i64 r1, .int .i64 r2, .string r3] 41 (0, 0)) by rw [hY1, hrb]; exact hpNew _ _)
      have hT1 := hTY.below by1
      have hB1 := (by1.block _ (blkX hBY)).trans hBY
      clear hTY hBY by1
      obtain ⟨Z, hZ⟩ : ∃ Z, Z = Y1.drew := ⟨_, rfl⟩
      have bz : Below Y1.heap.size Y1 Z := by rw [hZ]; exact (Below.refl _ _).drew
      have hT2 := Lib.hid (hT1.below bz)
      have hB2 := Lib.hid ((bz.block _ (blkX hB1)).trans hB1)
      replace hR := Lib.hid ((bz.block _ (blkX hR.out)).trans hR.out)
      clear bz hT1 hB1
      have hLx' := Lib.hid (show Lim (j + 1) x' from hx' ▸ hLx.out.ap cv)
      have hSt := shState_any hT2.out.s (by have := hLx'.out.own; omega) (by rw [hLx'.out.giv]; simp) (by rw [hLx'.out.tak]; simp) (by rw [hLx'.out.giv]; simp) (by rw [hLx'.out.tak]; simp)
      rw [hp'] at hSt
      replace hp' := Lib.hid hp'
      replace hrr := Lib.hid hrr; replace hx' := Lib.hid hx'; replace hY1 := Lib.hid hY1; replace hrb := Lib.hid hrb; replace hZ := Lib.hid hZ
      go_upto_region 21 with (fail)
      rw [← hrb.out, ← hY1.out]
      refine wp_region_held_drew (S := (fun W' : World => W'.heap[ab]? = some (.cells (cdV cv) 39 (0, 0)))) (by kernel_rfl) ?_ (fun hH => ?_)
      ·
       try rw [← hZ.out]
       exact hB2.out
      refine tl 0 hH ?_
      refine tk (i := 2) (v := ?_) (hy := .inl ⟨by rfl, by intro w hSw; have ld := cd_load hSw; go_simp; first | done | with_reducible rfl⟩) (hS := hH) (h := ?_)
      refine wpAnyH_ready (rs := [1]) (by kernel_rfl) (by simp) ?_
      refine AllReadyH.cons rfl (fun K hK => ?_) ?_
      ·
       clear hH
       try rw [← hZ.out]
       go_simp
       refine hSt.mono ?_
       rintro e U ⟨AR, cR, A1, c1, A2, c2, A3, c3, AG, cG, AT, cT, rfl, hU⟩
       clear hSt
       have hTU := Lib.hid (hT2.out.below hU.bel)
       have hBU := Lib.hid ((hU.bel.block _ (blkX hB2.out)).trans hB2.out)
       have hRU := Lib.hid ((hU.bel.block _ (blkX hR.out)).trans hR.out)
       have hot := other_any x' cv AR cR A1 c1 A2 c2 A3 c3 AG cG AT cT U (SL.of_own encM_len hU.o3 rfl) (by have := hLx'.out.mem; have := hS.out.2.1; omega)
       clear hU
       refine hK _ _ hBU.out (fun hH => ?_)
       clear hK K
       refine wpAnyH_ready (rs := [3]) (by kernel_rfl) (by simp) ?_
       refine AllReadyH.cons rfl (fun K hK => ?_) ?_
       ·
        clear hH
        go_simp
        refine hot.mono ?_
        rintro e U2 ⟨rfl, bu⟩
        clear hot
        have hTW := Lib.hid (hTU.out.below bu)
        have hBW := Lib.hid ((bu.block _ (blkX hBU.out)).trans hBU.out)
        have hRW := Lib.hid ((bu.block _ (blkX hRU.out)).trans hRU.out)
        clear bu
        refine hK _ _ hBW.out (fun hH => ?_)
        clear hK K
        refine wpAnyH_done (by kernel_rfl) ?_ _
        clear hH
        clear hT2 hB2 hR hTU hBU hRU hT hB
        cases hoth : otherB x'.mem cv with
        | true =>
         go_wp2_with (fail)
         refine (works_any _).mono ?_
         rintro e W9 ⟨rfl, b9⟩
         have k9 := Lib.hid ((k1.out.trans (hTW.out.bel.mono k1.out.size)).trans (b9.mono (k1.out.trans (hTW.out.bel.mono k1.out.size)).size))
         clear b9
         go_wp2_with (fail)
         go_ret
         exact ⟨rfl, k9.out⟩
        | false =>
         have hno := noO_of hoth
         replace hoth := Lib.hid hoth
         obtain ⟨Z3, hZ3⟩ : ∃ Z, Z = U2.drew := ⟨_, rfl⟩
         have bz : Below U2.heap.size U2 Z3 := by rw [hZ3]; exact (Below.refl _ _).drew
         have hT3 := Lib.hid (hTW.out.below bz)
         have hB3 := Lib.hid ((bz.block _ (blkX hBW.out)).trans hBW.out)
         have hR3 := Lib.hid ((bz.block _ (blkX hRW.out)).trans hRW.out)
         clear bz hTW hBW hRW
         replace hZ3 := Lib.hid hZ3
         by_cases hke : cv.key = key
         ·
          subst hke
          obtain ⟨sr, sX⟩ := ap_sim (c := cv) hsim.out (by rw [← hx'.out]; exact hno) (by have := hLx.out.mem; have := hS.out.2.1; omega) (by have := hLy.out.mem; have := hS.out.2.1; omega)
          have hak' := hak.out; have hakk' := hakk.out; have had' := had.out; have har' := har.out
          have hap2 := ap12_any hT3.out.r hLy.out.a0 (by have := hLy.out.a1; have := hS.out.2.1; omega) (by have := hLy.out.own; omega) hT3.out.bw cv (by rw [hakk']; exact .inr hk2) (by unfold szCd; rw [hak', har']; exact hszy.out) (by rw [had']; exact hoky.out.2.1.1) (by rw [had']; exact hoky.out.2.1.2)
          rw [sr, ← hrr.out, hq] at hap2
          rw [← hx'.out] at sX
          simp only [rpV] at hap2
          have hLy' := Lib.hid (hLy.out.ap cv)
          replace sX := Lib.hid sX
          clear hno sr hak' hakk' had' har'
          go_wp2_with (fail)
          refine wp_region_held_drew (S := (fun W' : World => W'.heap[ab]? = some (.cells (cdV cv) 39 (0, 0)) ∧ W'.heap[rb]? = some (.cells #[.int .i64 r1, .int .i64 r2, .string r3] 41 (0, 0)))) (by kernel_rfl) ?_ (fun hH => ?_)
          ·
           try rw [← hZ3.out]
           exact ⟨hB3.out, hR3.out⟩
          refine tl 0 hH ?_
          refine tk (i := 1) (v := ?_) (hy := .inl ⟨by rfl, by intro w hSw; have ua : w.cell? ⟨ab, 6, none⟩ = some (.string cv.key) := blkC hSw.1 6; go_simp; first | done | with_reducible rfl⟩) (hS := hH) (h := ?_)
          refine tl 2 hH ?_
          refine tl 3 hH ?_
          refine tl 4 hH ?_
          refine tl 5 hH ?_
          refine tk (i := 6) (v := ?_) (hy := .inl ⟨by rfl, by intro w hSw; have ld := cd_load hSw.1; go_simp; first | done | with_reducible rfl⟩) (hS := hH) (h := ?_)
          refine tk (i := 8) (v := ?_) (hy := .inl ⟨by rfl, by intro w hSw; have u0 : w.cell? ⟨rb, 0, none⟩ = some (.int .i64 r1) := blkC hSw.2 0; have u1 : w.cell? ⟨rb, 1, none⟩ = some (.int .i64 r2) := blkC hSw.2 1; have u2 : w.cell? ⟨rb, 2, none⟩ = some (.string r3) := blkC hSw.2 2; go_simp; first | done | with_reducible rfl⟩) (hS := hH) (h := ?_)
          refine wpAnyH_ready (rs := [7]) (by kernel_rfl) (by simp) ?_
          refine AllReadyH.cons rfl (fun K hK => ?_) ?_
          ·
           clear hH
           try rw [← hZ3.out]
           go_simp
           refine hap2.mono ?_
           rintro e U4 ⟨q', rfl, ht⟩
           have hTV := Lib.hid (hT3.out.rTo ht)
           have hBV := Lib.hid (ht.cells hT3.out.r hB3.out (by decide))
           have hRV := Lib.hid (ht.cells hT3.out.r hR3.out (by decide))
           have hq' := Lib.hid (ht.same.trans hq)
           clear ht hap2
           refine hK _ _ ⟨hBV.out, hRV.out⟩ (fun hH => ?_)
           clear hK K
           refine tl 9 hH ?_
           refine tl 10 hH ?_
           refine wpAnyH_done (by kernel_rfl) ?_ _
           clear hH
           go_wp2_with (fail)
           exact ⟨⟨j + 1, p', q', x', _, by omega, by go_num, hp'.out, hq'.out, hTV.out, sX.out, hLx'.out, hLy'.out⟩, by simp [intOf]; omega⟩
          exact AllReadyH.nil
         ·
          have hke' : (cv.key.toList == key.toList) = false := by rw [tl_eq]; exact decide_eq_false hke
          have sX := Lib.hid (show Sim key x' y from hx'.out ▸ ap_far (c := cv) hsim.out hke)
          clear hno
          go_wp2_with (fail)
          refine wp_region_held_drew (S := (fun W' : World => W'.heap[ab]? = some (.cells (cdV cv) 39 (0, 0)) ∧ W'.heap[rb]? = some (.cells #[.int .i64 r1, .int .i64 r2, .string r3] 41 (0, 0)))) (by kernel_rfl) ?_ (fun hH => ?_)
          ·
           try rw [← hZ3.out]
           exact ⟨hB3.out, hR3.out⟩
          refine tl 0 hH ?_
          refine tk (i := 1) (v := ?_) (hy := .inl ⟨by rfl, by intro w hSw; have ua : w.cell? ⟨ab, 6, none⟩ = some (.string cv.key) := blkC hSw.1 6; go_simp; first | done | with_reducible rfl⟩) (hS := hH) (h := ?_)
          refine tl 2 hH ?_
          refine tl 3 hH ?_
          refine tl 4 hH ?_
          refine ts 5 hH ?_
          refine ts 6 hH ?_
          refine ts 7 hH ?_
          refine ts 8 hH ?_
          refine ts 9 hH ?_
          refine tl 10 hH ?_
          refine wpAnyH_done (by kernel_rfl) ?_ _
          clear hH
          go_wp2_with (fail)
          try rw [← hZ3.out]
          exact ⟨⟨j + 1, p', q, x', y, by omega, by go_num, hp'.out, hq, hT3.out, sX.out, hLx'.out, hLy.out.le (by omega)⟩, by simp [intOf]; omega⟩
       exact AllReadyH.nil
      exact AllReadyH.nil
     ·
      have hk2' : (cc.k == 2) = false := by simp [hk2]
      have hk3 : (cc.k != 1) = true := by simp [hk1]
      have hk4 : (cc.k != 2) = true := by simp [hk2]
      go_wp2_with (fail)
      exact ⟨⟨j + 1, p, q, x, y, by omega, by go_num, hp, hq, hX1'.out, hsim.out, hLx.out.le (by omega), hLy.out.le (by omega)⟩, by simp [intOf]; omega⟩
   ·
    obtain rfl : j = m := by omega
    obtain ⟨he1, he2⟩ := hsim.out.get
    have hkz : key.size ≤ 140737488355328 := by have := hky.out; omega
    have hgx := shGet_any hX.out.s (by have := hLx.out.own; omega) key hkz
    rw [hp] at hgx
    obtain ⟨gv, hgv⟩ : ∃ z, z = getV x key := ⟨_, rfl⟩
    obtain ⟨ge, hge⟩ : ∃ z, z = getE x key := ⟨_, rfl⟩
    rw [← hgv, ← hge] at hgx
    obtain ⟨y1, y2, y3, y4, y5⟩ := gv
    simp only [cnV] at hgx
    replace hgv := Lib.hid hgv; replace hge := Lib.hid hge; replace he1 := Lib.hid he1; replace he2 := Lib.hid he2
    go_wp2_with (fail)
    refine hgx.mono ?_
    rintro e Wa ⟨rfl, ba⟩
    clear hgx
    obtain ⟨Wb, hWb⟩ : ∃ Z, Z = Wa.alloc (.cells #[.int .i64 y1, .int .i64 y2, .int .i64 y3, .int .i64 y4, .int .i64 y5] 54) := ⟨_, rfl⟩
    have bb : Below Wa.heap.size Wa Wb := by rw [hWb]; exact (Below.refl _ _).alloc (Nat.le_refl _) _
    obtain ⟨a1, ha1⟩ : ∃ z, z = Wa.heap.size := ⟨_, rfl⟩
    have hA1 := Lib.hid (show Wb.heap[a1]? = some (.cells #[.int .i64 y1, .int .i64 y2, .int .i64 y3, .int .i64 y4, .int .i64 y5] 54 (0, 0)) by rw [hWb, ha1]; exact hpNew _ _)
    have hXb := Lib.hid ((hX.out.below ba).below bb)
    clear ba bb
    replace hWb := Lib.hid hWb; replace ha1 := Lib.hid ha1
    have hgy := shGet_any hXb.out.r (by have := hLy.out.own; omega) key hkz
    rw [hq, he1.out, he2.out, ← hgv.out, ← hge.out] at hgy
    simp only [cnV] at hgy
    go_upto_region 26 with (fail)
    rw [← ha1.out, ← hWb.out]
    go_wp2_with (fail)
    refine hgy.mono ?_
    rintro e Wc ⟨rfl, bc⟩
    clear hgy
    obtain ⟨Wd, hWd⟩ : ∃ Z, Z = Wc.alloc (.cells #[.int .i64 y1, .int .i64 y2, .int .i64 y3, .int .i64 y4, .int .i64 y5] 54) := ⟨_, rfl⟩
    have bd : Below Wc.heap.size Wc Wd := by rw [hWd]; exact (Below.refl _ _).alloc (Nat.le_refl _) _
    obtain ⟨a2, ha2⟩ : ∃ z, z = Wc.heap.size := ⟨_, rfl⟩
    have hA2 := Lib.hid (show Wd.heap[a2]? = some (.cells #[.int .i64 y1, .int .i64 y2, .int .i64 y3, .int .i64 y4, .int .i64 y5] 54 (0, 0)) by rw [hWd, ha2]; exact hpNew _ _)
    have hXd := Lib.hid ((hXb.out.below bc).below bd)
    have hA1' := (bd.block _ (blkX ((bc.block _ (blkX hA1.out)).trans hA1.out))).trans ((bc.block _ (blkX hA1.out)).trans hA1.out)
    clear bc bd
    replace hWd := Lib.hid hWd; replace ha2 := Lib.hid ha2
    go_upto_region 27 with (fail)
    rw [← ha2.out, ← hWd.out]
    have z0 : Wd.cell? ⟨a1, 0, none⟩ = some (.int .i64 y1) := blkC hA1' 0
    have z1 : Wd.cell? ⟨a1, 1, none⟩ = some (.int .i64 y2) := blkC hA1' 1
    have z2 : Wd.cell? ⟨a1, 2, none⟩ = some (.int .i64 y3) := blkC hA1' 2
    have z3 : Wd.cell? ⟨a1, 3, none⟩ = some (.int .i64 y4) := blkC hA1' 3
    have z4 : Wd.cell? ⟨a1, 4, none⟩ = some (.int .i64 y5) := blkC hA1' 4
    have w0 : Wd.cell? ⟨a2, 0, none⟩ = some (.int .i64 y1) := blkC hA2.out 0
    have w1 : Wd.cell? ⟨a2, 1, none⟩ = some (.int .i64 y2) := blkC hA2.out 1
    have w2 : Wd.cell? ⟨a2, 2, none⟩ = some (.int .i64 y3) := blkC hA2.out 2
    have w3 : Wd.cell? ⟨a2, 3, none⟩ = some (.int .i64 y4) := blkC hA2.out 3
    have w4 : Wd.cell? ⟨a2, 4, none⟩ = some (.int .i64 y5) := blkC hA2.out 4
    have zx := blkX hA1'; have wx := blkX hA2.out
    replace hA1' := Lib.hid hA1'
    go_wp2_with (fail)
    refine (works_any _).mono ?_
    rintro e W9 ⟨rfl, b9⟩
    have kd := k1.out.trans (hXd.out.bel.mono k1.out.size)
    have k9 := Lib.hid (kd.trans (b9.mono kd.size))
    clear b9 kd
    go_wp2_with (fail)
    go_ret
    exact ⟨rfl, k9.out⟩
end Go.Proofs.YtmmiknlpndjdlaaGreatDoor
