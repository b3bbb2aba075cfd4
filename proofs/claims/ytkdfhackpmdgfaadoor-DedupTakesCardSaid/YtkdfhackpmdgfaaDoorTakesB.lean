/- The walk of DedupTakes (one of two cases). -/
import Derived.Test.YtkdfhackpmdgfaaDoorTakP
import Derived.Test.YtkdfhackpmdgfaaDoorIn
import Derived.Test.YtkdfhackpmdgfaaDoorEr
namespace Go.Proofs.YtkdfhackpmdgfaaDoor
open Go.RowKit Go.Shelf
set_option linter.unusedSimpArgs false
set_option linter.unusedVariables false
set_option linter.unusedSectionVars false
set_option maxRecDepth 10000
set_option maxHeartbeats 32000000 in
theorem takes_walkB {A : Option Addr} {n c : Nat} {ms : List Mo} (a b p q : Int) (hp : min a b = p) (hq : max a b = q) (p0 : 0 ≤ p) (p1 : p ≤ 255) (q0 : 0 ≤ q) (q1 : q ≤ 255) (hpq : p % 26 < q % 26) (w : World) (hA : MS w A n ms) (hm : ∀ m ∈ ms, okM m) (hc : n ≤ c) (hn : n ≤ 140737488355328) : Calls Tryd.prog 9 #[.slice A n c, .int .u8 a, .int .u8 b] w fun e w' => e = .returned (.bool true) ∧ Below w.heap.size w w' := by
  have hfi := filled_any (size := 200) w hA hm hc hn (by omega) (by omega)
  clear hA hm
  have e1 : p.tmod 26 = p % 26 := Int.tmod_eq_emod_of_nonneg p0
  have e2 : IntKind.u8.wrap (97 + p % 26) = 97 + p % 26 := by simp [IntKind.wrap, IntKind.signed, IntKind.bits]; omega
  have e3 : q.tmod 26 = q % 26 := Int.tmod_eq_emod_of_nonneg q0
  have e4 : IntKind.u8.wrap (97 + q % 26) = 97 + q % 26 := by simp [IntKind.wrap, IntKind.signed, IntKind.bits]; omega
  go_enter Tryd.func9, Tryd.ntmps9
  go_wp2_with (fail)
  refine hfi.mono ?_
  rintro e w1 ⟨D, B, P, Q, rfl, T1, M1, hF, hB, hQ⟩
  replace T1 := Lib.hid T1; replace M1 := Lib.hid M1; replace hF := Lib.hid hF; replace hQ := Lib.hid hQ
  clear hfi
  have bb := (Below.refl _ w1).alloc (Nat.le_refl _) (.cells #[.int .u8 (97 + p % 26)] 5)
  have hcv := let_conv (hpNew w1 (.cells #[.int .u8 (97 + p % 26)] 5))
  obtain ⟨ga, hga⟩ : ∃ x, x = (⟨#[UInt8.ofNat (97 + p % 26).toNat]⟩ : ByteArray) := ⟨_, rfl⟩
  rw [← hga] at hcv
  have hgs : ga.size = 1 := by rw [hga]; rfl
  have hg0 : ∀ h : 0 < ga.size, (((ga[0]'h).toNat : Nat) : Int) = 97 + p % 26 := by
    subst hga
    intro h
    show ((UInt8.ofNat (97 + p % 26).toNat).toNat : Int) = _
    simp
    omega
  have hgl : ga = letB (p % 26).toNat := by
    rw [hga]; unfold letB
    rw [show (97 + p % 26).toNat = 97 + (p % 26).toNat from by omega]
  replace hga := Lib.hid hga; replace hgl := Lib.hid hgl
  obtain ⟨gb, hgb⟩ : ∃ x, x = (⟨#[UInt8.ofNat (97 + q % 26).toNat]⟩ : ByteArray) := ⟨_, rfl⟩
  have hR0 : ((w1.alloc (.cells #[.int .u8 (97 + p % 26)] 5)).alloc (.cells #[.string ga, .string ⟨#[]⟩] 25)).heap[w1.heap.size + 1]? = some (.cells #[.string ga, .string ⟨#[]⟩] 25 (0, 0)) := by
    have := hpNew (w1.alloc (.cells #[.int .u8 (97 + p % 26)] 5)) (.cells #[.string ga, .string ⟨#[]⟩] 25)
    rwa [show (w1.alloc (.cells #[.int .u8 (97 + p % 26)] 5)).heap.size = w1.heap.size + 1 from by simp] at this
  have hcv2 := let_conv (hpNew ((w1.alloc (.cells #[.int .u8 (97 + p % 26)] 5)).alloc (.cells #[.string ga, .string ⟨#[]⟩] 25)) (.cells #[.int .u8 (97 + q % 26)] 5))
  rw [← hgb] at hcv2
  rw [show ((w1.alloc (.cells #[.int .u8 (97 + p % 26)] 5)).alloc (.cells #[.string ga, .string ⟨#[]⟩] 25)).heap.size = w1.heap.size + 1 + 1 from by simp] at hcv2
  have hR : (((w1.alloc (.cells #[.int .u8 (97 + p % 26)] 5)).alloc (.cells #[.string ga, .string gb] 25)).alloc (.cells #[.int .u8 (97 + q % 26)] 5)).heap[w1.heap.size + 1]? = some (.cells #[.string ga, .string gb] 25 (0, 0)) := by
    rw [hpOld _ (by simp)]
    have := hpNew (w1.alloc (.cells #[.int .u8 (97 + p % 26)] 5)) (.cells #[.string ga, .string gb] 25)
    rwa [show (w1.alloc (.cells #[.int .u8 (97 + p % 26)] 5)).heap.size = w1.heap.size + 1 from by simp] at this
  have bb2 := (((Below.refl _ w1).alloc (Nat.le_refl _) (.cells #[.int .u8 (97 + p % 26)] 5)).alloc (by simp) (.cells #[.string ga, .string gb] 25)).alloc (by simp <;> omega) (.cells #[.int .u8 (97 + q % 26)] 5)
  have hok : okG (ga, gb) = true := by
    rw [hgl.out, show gb = letB (q % 26).toNat from by rw [hgb]; unfold letB; rw [show (97 + q % 26).toNat = 97 + (q % 26).toNat from by omega]]
    exact rangeB _ (by omega) _ (by omega) (by omega)
  have hgbs : gb.size ≤ 1 := by rw [hgb]; exact Nat.le_refl _
  obtain ⟨w2, hw2⟩ : ∃ x, x = (((w1.alloc (.cells #[.int .u8 (97 + p % 26)] 5)).alloc (.cells #[.string ga, .string gb] 25)).alloc (.cells #[.int .u8 (97 + q % 26)] 5)) := ⟨_, rfl⟩
  rw [← hw2] at hR bb2
  have T2 := T1.out.below bb2
  have M2 := Lib.hid (M1.out.below bb2)
  have htk := T2.takeM ga gb (by omega) (by omega)
  have hRD : w1.heap.size + 1 ≠ D := by have := T1.out.lt; omega
  replace T2 := Lib.hid T2; replace hR := Lib.hid hR; replace hgb := Lib.hid hgb; replace hok := Lib.hid hok; replace hgbs := Lib.hid hgbs
  clear bb2 bb
  go_wp2_with (fail)
  rw [← hw2]
  replace hw2 := Lib.hid hw2
  refine htk.mono ?_
  rintro e w2b ⟨L, mm, d, rfl, hmm, hO, -, T3, kp, km, -⟩
  have M3 := MapOf.km M2.out km
  have hR3 := kp _ _ _ _ hR.out hRD (by decide)
  have htc : takeC (ga, gb) = 0 := by unfold takeC; rw [if_pos hok.out]
  have hTk : ∀ y ∈ takeO (ga, gb) P, _ := fun y hy => hF.out.taken hok.out hy
  have hSt : ∀ y ∈ (takeL (ga, gb) P).map En.e, _ := fun y hy => hF.out.stays hok.out hy
  have hNx : ∀ k x y, (takeO (ga, gb) P)[k]? = some x → (takeO (ga, gb) P)[k + 1]? = some y → cmpE x y < 0 := fun k x y hx hy => (cmpE_neg _ _).2 (take_next hF.out.same.ord hok.out hx hy)
  have hAg : ∀ y ∈ takeO (ga, gb) P, ∀ m, mof Q y = some m → putC 200 (takeL (ga, gb) P) (enM m) = 0 ∧ (putL 200 (takeL (ga, gb) P) (enM m)).length = (takeL (ga, gb) P).length + 1 := fun y hy m hm => hF.out.again hQ.out hok.out hy hm
  have hTw := take_twice (P := P) hok.out
  have hln := take_len hok.out P
  rw [hF.out.len] at hln
  have hQ1 := hQ.out
  obtain ⟨Ol, hOl⟩ : ∃ x, x = takeO (ga, gb) P := ⟨_, rfl⟩
  obtain ⟨P2, hP2⟩ : ∃ x, x = takeL (ga, gb) P := ⟨_, rfl⟩
  rw [← hOl] at hmm hO hTk hNx hAg hln
  rw [← hP2] at T3 hTk hSt hAg hTw hln
  rw [htc]
  have hle := T3.len
  have hlen := fun ty => M3.len undMap ty
  obtain ⟨R, hRR⟩ : ∃ x, x = w1.heap.size + 1 := ⟨_, rfl⟩
  rw [← hRR] at hR3 ⊢
  have T0 := Lib.hid (T1.out.lt)
  clear hOl hP2 htc hF hQ hR kp km htk M2 T2 hRD
  subst hmm
  have hs1 : (Ol.length : Int) + P2.length = Q.length := by omega
  have hs2 : (Q.length : Int) ≤ 100 := by omega
  replace hRR := Lib.hid hRR; replace T3 := Lib.hid T3; replace M3 := Lib.hid M3; replace hR3 := Lib.hid hR3; replace hO := Lib.hid hO; replace hTk := Lib.hid hTk; replace hSt := Lib.hid hSt; replace hNx := Lib.hid hNx; replace hAg := Lib.hid hAg; replace hTw := Lib.hid hTw; replace hln := Lib.hid hln
  go_wp2_with (fail)
  refine hle.mono ?_
  rintro e w2c ⟨rfl, rfl⟩
  clear hle hcv e1 e2 e3 e4 hg0 hgs
  go_wp2_with (fail)
  clear hlen
  go_loopw [89] (fun i wr => ∃ k : Nat, i = .int .i64 k ∧ k ≤ Ol.length ∧ Tb w.heap.size w D 200 P2 wr ∧ MM wr B Q ∧ ES wr L Ol.length Ol ∧ wr.heap[R]? = some (.cells #[.string ga, .string gb] 25 (0, 0))) (fun i _ => Ol.length - (intOf i).toNat)
  case atStart => exact ⟨0, rfl, by omega, T3.out, M3.out, hO.out, hR3.out⟩
  case round =>
   clear T3 M3 hO hR3
   revert wr
   intro w3 hrel
   obtain ⟨k, rfl, hk, hT, hM, hO, hRb⟩ := hrel
   by_cases hlt : k < Ol.length
   · obtain ⟨xb, xo, y, rfl, hxl, hy, c0, c1, c2⟩ := ES.at_ hO hlt
     obtain ⟨m, hmo, hme, hmk, hmi, hhas, hget⟩ := hTk.out y (List.mem_of_getElem? hy)
     have j1 : (k : Int) < Ol.length := by omega
     replace hhas := Lib.hid hhas; replace hget := Lib.hid hget; replace hy := Lib.hid hy
  
     obtain ⟨kl, hkl⟩ := key_mo hmk
     rw [hme] at hkl
     have hof := fun W => of_any hmk W
     have hin := fun W => in_any (R := R) (ga := ga) (gb := gb) hmk W
     obtain ⟨key, hkey⟩ : ∃ x, x = moK m := ⟨_, rfl⟩
     obtain ⟨r, hr⟩ : ∃ x, x = moR m := ⟨_, rfl⟩
     simp only [hme, ← hkey, ← hr] at hof
     rw [hmi] at hin
     skip
     have hmoq : (fQ Q (efV y)) = some (moV m) := by rw [fQ_ef, hmo]; rfl
     obtain ⟨m1, m2, m3, m4, m5, hmm⟩ : ∃ m1 m2 m3 m4 m5, m = (m1, m2, m3, m4, m5) := ⟨_, _, _, _, _, rfl⟩
     have hmoV : moV m = .agg #[.int .u8 m1, .int .u8 m2, .int .u8 m3, .int .i32 m4, .int .u8 m5] := by rw [hmm]; rfl
     rw [hmoV] at hmoq
     simp only [hmm] at hof hin
     obtain ⟨y1, y2, y3⟩ := y
     obtain ⟨r1, r2, r3⟩ := r
     simp only at hof hin c0 c1 c2
     clear hmm hmoV hme hmo hmk hmi hkey hr
     have bb := (Below.refl _ w3).alloc (Nat.le_refl _) (.cells #[.int .i64 y1, .int .i64 y2, .int .i64 y3] 23)
     have hb4 := hpNew w3 (.cells #[.int .i64 y1, .int .i64 y2, .int .i64 y3] 23)
     have T4 := hT.below bb
     have M4 := hM.below bb
     have O4 := SL.keep hO bb
     have R4 := (bb.block _ (blkX hRb)).trans hRb
     obtain ⟨w4, hw4⟩ : ∃ w4, w4 = w3.alloc (.cells #[.int .i64 y1, .int .i64 y2, .int .i64 y3] 23) := ⟨_, rfl⟩
     rw [← hw4] at bb hb4 T4 M4 O4 R4
     obtain ⟨v, hlk, hv1, -⟩ := M4.look_ok keyLaw undMap (zeroMo w4) hkl
     obtain rfl := hv1 _ hmoq
     rw [hmoq] at hlk
     simp only [efV, Option.isSome_some] at hlk
     have x0 := blkC hb4 0; have x1 := blkC hb4 1; have x2 := blkC hb4 2
     simp only [List.getElem?_toArray, List.getElem?_cons_zero, List.getElem?_cons_succ] at x0 x1 x2
     have AV := (Below.refl _ w4).alloc (Nat.le_refl _) (.cells #[.int .u8 m1, .int .u8 m2, .int .u8 m3, .int .i32 m4, .int .u8 m5] 73)
     have T := Lib.hid (T4.below AV)
     have M := Lib.hid (M4.below AV)
     have O := Lib.hid (SL.keep O4 AV)
     have Rb := Lib.hid ((AV.block _ (blkX R4)).trans R4)
     have hb5 := (AV.block _ (blkX hb4)).trans hb4
     have hv5 := hpNew w4 (.cells #[.int .u8 m1, .int .u8 m2, .int .u8 m3, .int .i32 m4, .int .u8 m5] 73)
     have hs4 : w4.heap.size = w3.heap.size + 1 := by rw [hw4]; simp
     rw [hs4] at hv5
     
     obtain ⟨w5, hw5⟩ : ∃ x, x = w4.alloc (.cells #[.int .u8 m1, .int .u8 m2, .int .u8 m3, .int .i32 m4, .int .u8 m5] 73) := ⟨_, rfl⟩
     rw [← hw5] at T M O Rb hb5 hv5
     rw [hw4] at hlk
     have j0 : (0 : Int) ≤ k := by omega
     have hb := Lib.hid hb5; have hv := Lib.hid hv5; clear hb5 hv5
     replace T4 := Lib.hid T4; replace M4 := Lib.hid M4; replace O4 := Lib.hid O4; replace R4 := Lib.hid R4; replace hb4 := Lib.hid hb4; replace hkl := Lib.hid hkl; replace hmoq := Lib.hid hmoq; replace hs4 := Lib.hid hs4; replace bb := Lib.hid bb; replace AV := Lib.hid AV; replace hT := Lib.hid hT; replace hM := Lib.hid hM; replace hO := Lib.hid hO; replace hRb := Lib.hid hRb
     go_wp2_with (fail)
     rw [← hw4, ← hw5]
     clear x0 x1 x2 hlk c0 c1 c2 hof
     replace hw4 := Lib.hid hw4; replace hw5 := Lib.hid hw5
     clear hT hM hO hRb T4 M4 O4 R4 hb4 bb AV
     have hg := T.out.get (y1, y2, y3)
     rw [hget.out, hhas.out] at hg
     simp only at hg
     refine hg.mono ?_
     rintro e w6 ⟨rfl, -, b6⟩
     clear hg
     have TX := Lib.hid (T.out.below b6)
     clear T; have T := TX; clear TX
     have MX := Lib.hid (M.out.below b6)
     clear M; have M := MX; clear MX
     have OX := Lib.hid (SL.keep O.out b6)
     clear O; have O := OX; clear OX
     have RbX := Lib.hid ((b6.block _ (blkX Rb.out)).trans Rb.out)
     clear Rb; have Rb := RbX; clear RbX
     have hbX := Lib.hid ((b6.block _ (blkX hb.out)).trans hb.out)
     clear hb; have hb := hbX; clear hbX
     have hvX := Lib.hid ((b6.block _ (blkX hv.out)).trans hv.out)
     clear hv; have hv := hvX; clear hvX
     clear b6
     have bq := (Below.refl _ w6).alloc (Nat.le_refl _) (.cells #[.int .i64 0, .int .i64 0, .string noText] 43)
     have TX := Lib.hid (T.out.below bq)
     clear T; have T := TX; clear TX
     have MX := Lib.hid (M.out.below bq)
     clear M; have M := MX; clear MX
     have OX := Lib.hid (SL.keep O.out bq)
     clear O; have O := OX; clear OX
     have RbX := Lib.hid ((bq.block _ (blkX Rb.out)).trans Rb.out)
     clear Rb; have Rb := RbX; clear RbX
     have hbX := Lib.hid ((bq.block _ (blkX hb.out)).trans hb.out)
     clear hb; have hb := hbX; clear hbX
     have hvX := Lib.hid ((bq.block _ (blkX hv.out)).trans hv.out)
     clear hv; have hv := hvX; clear hvX
     clear bq
     obtain ⟨w7, hw7⟩ : ∃ x, x = w6.alloc (.cells #[.int .i64 0, .int .i64 0, .string noText] 43) := ⟨_, rfl⟩
     rw [← hw7] at T M O Rb hb hv
     go_wp2_with (fail)
     rw [← hw7]
     replace hw7 := Lib.hid hw7
     by_cases hk0 : k = 0
     · subst hk0
       have hSv : ∀ W : World, W.heap[w3.heap.size + 1]? = some (.cells #[.int .u8 m1, .int .u8 m2, .int .u8 m3, .int .i32 m4, .int .u8 m5] 73 (0, 0)) → (fun w' : World => w'.cell? ⟨w3.heap.size + 1, 0, none⟩ = some (.int .u8 m1) ∧ w'.cell? ⟨w3.heap.size + 1, 1, none⟩ = some (.int .u8 m2) ∧ w'.cell? ⟨w3.heap.size + 1, 2, none⟩ = some (.int .u8 m3) ∧ w'.cell? ⟨w3.heap.size + 1, 3, none⟩ = some (.int .i32 m4) ∧ w'.cell? ⟨w3.heap.size + 1, 4, none⟩ = some (.int .u8 m5)) W := by
         intro W hv
         have z0 := blkC hv 0; have z1 := blkC hv 1; have z2 := blkC hv 2; have z3 := blkC hv 3; have z4 := blkC hv 4
         simp only [List.getElem?_toArray, List.getElem?_cons_zero, List.getElem?_cons_succ] at z0 z1 z2 z3 z4
         exact ⟨z0, z1, z2, z3, z4⟩
       replace hSv := Lib.hid hSv
       have bD : Below w7.heap.size w7 w7.drew := (Below.refl _ w7).drew
       have TX := Lib.hid (T.out.below bD)
       clear T; have T := TX; clear TX
       have MX := Lib.hid (M.out.below bD)
       clear M; have M := MX; clear MX
       have OX := Lib.hid (SL.keep O.out bD)
       clear O; have O := OX; clear OX
       have RbX := Lib.hid ((bD.block _ (blkX Rb.out)).trans Rb.out)
       clear Rb; have Rb := RbX; clear RbX
       have hbX := Lib.hid ((bD.block _ (blkX hb.out)).trans hb.out)
       clear hb; have hb := hbX; clear hbX
       have hvX := Lib.hid ((bD.block _ (blkX hv.out)).trans hv.out)
       clear hv; have hv := hvX; clear hvX
       clear bD
       refine wp_region_held_drew (S := (fun w' : World => w'.cell? ⟨w3.heap.size + 1, 0, none⟩ = some (.int .u8 m1) ∧ w'.cell? ⟨w3.heap.size + 1, 1, none⟩ = some (.int .u8 m2) ∧ w'.cell? ⟨w3.heap.size + 1, 2, none⟩ = some (.int .u8 m3) ∧ w'.cell? ⟨w3.heap.size + 1, 3, none⟩ = some (.int .i32 m4) ∧ w'.cell? ⟨w3.heap.size + 1, 4, none⟩ = some (.int .u8 m5))) (by kernel_rfl) ?_ (fun hH => ?_)
       · exact hSv.out _ hv.out
       refine wpAnyH_take (i := 0) (v := ?_) rfl (by kernel_rfl) (by kernel_rfl) (by kernel_rfl) (fun _ _ _ h => h) (Or.inl ⟨by rfl, by intro w hSw; go_simp; first | done | with_reducible rfl⟩) hH ?_
       simp only [List.getElem_toArray, List.getElem_cons_succ, List.getElem_cons_zero, Act.put, List.setIfInBounds_toArray, List.set_cons_zero, List.set_cons_succ]
       refine wpAnyH_take (i := 1) (v := ?_) rfl (by kernel_rfl) (by kernel_rfl) (by kernel_rfl) (fun _ _ _ h => h) (Or.inl ⟨by rfl, by intro w hSw; go_simp; first | done | with_reducible rfl⟩) hH ?_
       simp only [List.getElem_toArray, List.getElem_cons_succ, List.getElem_cons_zero, Act.put, List.setIfInBounds_toArray, List.set_cons_zero, List.set_cons_succ]
       refine wpAnyH_take (i := 2) (v := ?_) rfl (by kernel_rfl) (by kernel_rfl) (by kernel_rfl) (fun _ _ _ h => h) (Or.inl ⟨by rfl, by intro w hSw; go_simp; first | done | with_reducible rfl⟩) hH ?_
       simp only [List.getElem_toArray, List.getElem_cons_succ, List.getElem_cons_zero, Act.put, List.setIfInBounds_toArray, List.set_cons_zero, List.set_cons_succ]
       refine wpAnyH_take (i := 3) (v := ?_) rfl (by kernel_rfl) (by kernel_rfl) (by kernel_rfl) (fun _ _ _ h => h) (Or.inl ⟨by rfl, by intro w hSw; go_simp; first | done | with_reducible rfl⟩) hH ?_
       simp only [List.getElem_toArray, List.getElem_cons_succ, List.getElem_cons_zero, Act.put, List.setIfInBounds_toArray, List.set_cons_zero, List.set_cons_succ]
       refine wpAnyH_take (i := 4) (v := ?_) rfl (by kernel_rfl) (by kernel_rfl) (by kernel_rfl) (fun _ _ _ h => h) (Or.inl ⟨by rfl, by intro w hSw; obtain ⟨s0, s1, s2, s3, s4⟩ := hSw; go_simp; first | done | with_reducible rfl⟩) hH ?_
       simp only [List.getElem_toArray, List.getElem_cons_succ, List.getElem_cons_zero, Act.put, List.setIfInBounds_toArray, List.set_cons_zero, List.set_cons_succ]
       refine wpAnyH_ready (rs := [5]) (by kernel_rfl) (by simp) ?_
       refine AllReadyH.cons rfl (fun K hK => ?_) ?_
       · clear hH
         go_simp
         refine (hin _ Rb.out).mono ?_
         rintro e' V ⟨rfl, bV⟩
         have TX := Lib.hid (T.out.below bV)
         clear T; have T := TX; clear TX
         have MX := Lib.hid (M.out.below bV)
         clear M; have M := MX; clear MX
         have OX := Lib.hid (SL.keep O.out bV)
         clear O; have O := OX; clear OX
         have RbX := Lib.hid ((bV.block _ (blkX Rb.out)).trans Rb.out)
         clear Rb; have Rb := RbX; clear RbX
         have hbX := Lib.hid ((bV.block _ (blkX hb.out)).trans hb.out)
         clear hb; have hb := hbX; clear hbX
         have hvX := Lib.hid ((bV.block _ (blkX hv.out)).trans hv.out)
         clear hv; have hv := hvX; clear hvX
         clear bV
         refine hK.out _ _ (hSv.out _ hv.out) (fun hH => ?_)
         clear hK K
         refine wpAnyH_take (i := 6) (v := ?_) rfl (by kernel_rfl) (by kernel_rfl) (by kernel_rfl) (fun _ _ _ h => h) (Or.inl ⟨by rfl, by intro w hSw; go_simp; first | done | with_reducible rfl⟩) hH ?_
         simp only [List.getElem_toArray, List.getElem_cons_succ, List.getElem_cons_zero, Act.put, List.setIfInBounds_toArray, List.set_cons_zero, List.set_cons_succ]
         refine wpAnyH_take (i := 7) (v := ?_) rfl (by kernel_rfl) (by kernel_rfl) (by kernel_rfl) (fun _ _ _ h => h) (Or.inl ⟨by rfl, by intro w hSw; go_simp; first | done | with_reducible rfl⟩) hH ?_
         simp only [List.getElem_toArray, List.getElem_cons_succ, List.getElem_cons_zero, Act.put, List.setIfInBounds_toArray, List.set_cons_zero, List.set_cons_succ]
         refine wpAnyH_take (i := 8) (v := ?_) rfl (by kernel_rfl) (by kernel_rfl) (by kernel_rfl) (fun _ _ _ h => h) (Or.inl ⟨by rfl, by intro w hSw; go_simp; first | done | with_reducible rfl⟩) hH ?_
         simp only [List.getElem_toArray, List.getElem_cons_succ, List.getElem_cons_zero, Act.put, List.setIfInBounds_toArray, List.set_cons_zero, List.set_cons_succ]
         refine wpAnyH_take (i := 9) (v := ?_) rfl (by kernel_rfl) (by kernel_rfl) (by kernel_rfl) (fun _ _ _ h => h) (Or.inl ⟨by rfl, by intro w hSw; go_simp; first | done | with_reducible rfl⟩) hH ?_
         simp only [List.getElem_toArray, List.getElem_cons_succ, List.getElem_cons_zero, Act.put, List.setIfInBounds_toArray, List.set_cons_zero, List.set_cons_succ]
         refine wpAnyH_take (i := 10) (v := ?_) rfl (by kernel_rfl) (by kernel_rfl) (by kernel_rfl) (fun _ _ _ h => h) (Or.inl ⟨by rfl, by intro w hSw; go_simp; first | done | with_reducible rfl⟩) hH ?_
         simp only [List.getElem_toArray, List.getElem_cons_succ, List.getElem_cons_zero, Act.put, List.setIfInBounds_toArray, List.set_cons_zero, List.set_cons_succ]
         refine wpAnyH_take (i := 11) (v := ?_) rfl (by kernel_rfl) (by kernel_rfl) (by kernel_rfl) (fun _ _ _ h => h) (Or.inl ⟨by rfl, by intro w hSw; go_simp; first | done | with_reducible rfl⟩) hH ?_
         simp only [List.getElem_toArray, List.getElem_cons_succ, List.getElem_cons_zero, Act.put, List.setIfInBounds_toArray, List.set_cons_zero, List.set_cons_succ]
         refine wpAnyH_take (i := 12) (v := ?_) rfl (by kernel_rfl) (by kernel_rfl) (by kernel_rfl) (fun _ _ _ h => h) (Or.inl ⟨by rfl, by intro w hSw; go_simp; first | done | with_reducible rfl⟩) hH ?_
         simp only [List.getElem_toArray, List.getElem_cons_succ, List.getElem_cons_zero, Act.put, List.setIfInBounds_toArray, List.set_cons_zero, List.set_cons_succ]
         refine wpAnyH_take (i := 13) (v := ?_) rfl (by kernel_rfl) (by kernel_rfl) (by kernel_rfl) (fun _ _ _ h => h) (Or.inl ⟨by rfl, by intro w hSw; go_simp; first | done | with_reducible rfl⟩) hH ?_
         simp only [List.getElem_toArray, List.getElem_cons_succ, List.getElem_cons_zero, Act.put, List.setIfInBounds_toArray, List.set_cons_zero, List.set_cons_succ]
         refine wpAnyH_take (i := 14) (v := ?_) rfl (by kernel_rfl) (by kernel_rfl) (by kernel_rfl) (fun _ _ _ h => h) (Or.inl ⟨by rfl, by intro w hSw; go_simp; first | done | with_reducible rfl⟩) hH ?_
         simp only [List.getElem_toArray, List.getElem_cons_succ, List.getElem_cons_zero, Act.put, List.setIfInBounds_toArray, List.set_cons_zero, List.set_cons_succ]
         refine wpAnyH_take (i := 15) (v := undef) rfl (by kernel_rfl) (by kernel_rfl) (by kernel_rfl) (fun _ _ _ h => h) (Or.inr ⟨by rfl, rfl⟩) hH ?_
         simp only [List.getElem_toArray, List.getElem_cons_succ, List.getElem_cons_zero, Act.put, List.setIfInBounds_toArray, List.set_cons_zero, List.set_cons_succ]
         refine wpAnyH_take (i := 16) (v := undef) rfl (by kernel_rfl) (by kernel_rfl) (by kernel_rfl) (fun _ _ _ h => h) (Or.inr ⟨by rfl, rfl⟩) hH ?_
         simp only [List.getElem_toArray, List.getElem_cons_succ, List.getElem_cons_zero, Act.put, List.setIfInBounds_toArray, List.set_cons_zero, List.set_cons_succ]
         refine wpAnyH_take (i := 17) (v := undef) rfl (by kernel_rfl) (by kernel_rfl) (by kernel_rfl) (fun _ _ _ h => h) (Or.inr ⟨by rfl, rfl⟩) hH ?_
         simp only [List.getElem_toArray, List.getElem_cons_succ, List.getElem_cons_zero, Act.put, List.setIfInBounds_toArray, List.set_cons_zero, List.set_cons_succ]
         refine wpAnyH_take (i := 18) (v := undef) rfl (by kernel_rfl) (by kernel_rfl) (by kernel_rfl) (fun _ _ _ h => h) (Or.inr ⟨by rfl, rfl⟩) hH ?_
         simp only [List.getElem_toArray, List.getElem_cons_succ, List.getElem_cons_zero, Act.put, List.setIfInBounds_toArray, List.set_cons_zero, List.set_cons_succ]
         refine wpAnyH_take (i := 19) (v := undef) rfl (by kernel_rfl) (by kernel_rfl) (by kernel_rfl) (fun _ _ _ h => h) (Or.inr ⟨by rfl, rfl⟩) hH ?_
         simp only [List.getElem_toArray, List.getElem_cons_succ, List.getElem_cons_zero, Act.put, List.setIfInBounds_toArray, List.set_cons_zero, List.set_cons_succ]
         refine wpAnyH_take (i := 20) (v := undef) rfl (by kernel_rfl) (by kernel_rfl) (by kernel_rfl) (fun _ _ _ h => h) (Or.inr ⟨by rfl, rfl⟩) hH ?_
         simp only [List.getElem_toArray, List.getElem_cons_succ, List.getElem_cons_zero, Act.put, List.setIfInBounds_toArray, List.set_cons_zero, List.set_cons_succ]
         refine wpAnyH_take (i := 21) (v := undef) rfl (by kernel_rfl) (by kernel_rfl) (by kernel_rfl) (fun _ _ _ h => h) (Or.inr ⟨by rfl, rfl⟩) hH ?_
         simp only [List.getElem_toArray, List.getElem_cons_succ, List.getElem_cons_zero, Act.put, List.setIfInBounds_toArray, List.set_cons_zero, List.set_cons_succ]
         refine wpAnyH_take (i := 22) (v := undef) rfl (by kernel_rfl) (by kernel_rfl) (by kernel_rfl) (fun _ _ _ h => h) (Or.inr ⟨by rfl, rfl⟩) hH ?_
         simp only [List.getElem_toArray, List.getElem_cons_succ, List.getElem_cons_zero, Act.put, List.setIfInBounds_toArray, List.set_cons_zero, List.set_cons_succ]
         refine wpAnyH_take (i := 23) (v := ?_) rfl (by kernel_rfl) (by kernel_rfl) (by kernel_rfl) (fun _ _ _ h => h) (Or.inl ⟨by rfl, by intro w hSw; go_simp; first | done | with_reducible rfl⟩) hH ?_
         simp only [List.getElem_toArray, List.getElem_cons_succ, List.getElem_cons_zero, Act.put, List.setIfInBounds_toArray, List.set_cons_zero, List.set_cons_succ]
         refine wpAnyH_take (i := 24) (v := ?_) rfl (by kernel_rfl) (by kernel_rfl) (by kernel_rfl) (fun _ _ _ h => h) (Or.inl ⟨by rfl, by intro w hSw; go_simp; first | done | with_reducible rfl⟩) hH ?_
         simp only [List.getElem_toArray, List.getElem_cons_succ, List.getElem_cons_zero, Act.put, List.setIfInBounds_toArray, List.set_cons_zero, List.set_cons_succ]
         refine wpAnyH_done (by kernel_rfl) ?_ _
         clear hH hb hv
         go_wp2_with (fail)
         exact ⟨⟨0 + 1, by go_num, by omega, T.out, M.out, O.out, Rb.out⟩, by simp [intOf]; omega⟩
       exact AllReadyH.nil
     · obtain ⟨j, rfl⟩ : ∃ j, k = j + 1 := ⟨k - 1, by omega⟩
       obtain ⟨⟨x1, x2, x3⟩, hxj⟩ : ∃ x, Ol[j]? = some x := ⟨_, List.getElem?_eq_getElem (by omega)⟩
       have hlow := hNx.out _ _ _ hxj hy.out
       have i0 : (0 : Int) ≤ j := by omega
       have i1 : (j : Int) < Ol.length := by omega
       have iw : IntKind.i64.wrap (j : Int) = j := by simp [IntKind.wrap, IntKind.signed, IntKind.bits]; omega
       have hord := fun W => order_any (x1, x2, x3) (y1, y2, y3) W
       simp only at hord
       obtain ⟨o, ho⟩ : ∃ o, o = cmpE (x1, x2, x3) (y1, y2, y3) := ⟨_, rfl⟩
       rw [← ho] at hord hlow
       have ho0 : ¬ (0 : Int) ≤ o := by omega
       have hSv : ∀ W : World, ES W (some ⟨xb, xo, none⟩) Ol.length Ol → W.heap[w3.heap.size + 1]? = some (.cells #[.int .u8 m1, .int .u8 m2, .int .u8 m3, .int .i32 m4, .int .u8 m5] 73 (0, 0)) → W.heap[w3.heap.size]? = some (.cells #[.int .i64 y1, .int .i64 y2, .int .i64 y3] 23 (0, 0)) → (fun w' : World => w'.cell? ⟨w3.heap.size + 1, 0, none⟩ = some (.int .u8 m1) ∧ w'.cell? ⟨w3.heap.size + 1, 1, none⟩ = some (.int .u8 m2) ∧ w'.cell? ⟨w3.heap.size + 1, 2, none⟩ = some (.int .u8 m3) ∧ w'.cell? ⟨w3.heap.size + 1, 3, none⟩ = some (.int .i32 m4) ∧ w'.cell? ⟨w3.heap.size + 1, 4, none⟩ = some (.int .u8 m5) ∧ w'.cell? ⟨xb, xo + j * 3, none⟩ = some (.int .i64 x1) ∧ w'.cell? ⟨xb, xo + j * 3 + 1, none⟩ = some (.int .i64 x2) ∧ w'.cell? ⟨xb, xo + j * 3 + 2, none⟩ = some (.int .i64 x3) ∧ w'.cell? ⟨w3.heap.size, 0, none⟩ = some (.int .i64 y1) ∧ w'.cell? ⟨w3.heap.size, 1, none⟩ = some (.int .i64 y2) ∧ w'.cell? ⟨w3.heap.size, 2, none⟩ = some (.int .i64 y3)) W := by
         intro W hO hv hb
         obtain ⟨b', o', e, hl, hc⟩ := hO.2 (by omega)
         injection e with e
         injection e with e1 e2
         subst e1 e2
         have d0 := hc j _ hxj 0 _ rfl; have d1 := hc j _ hxj 1 _ rfl; have d2 := hc j _ hxj 2 _ rfl
         have z0 := blkC hv 0; have z1 := blkC hv 1; have z2 := blkC hv 2; have z3 := blkC hv 3; have z4 := blkC hv 4
         simp only [List.getElem?_toArray, List.getElem?_cons_zero, List.getElem?_cons_succ] at z0 z1 z2 z3 z4
         have q0 := blkC hb 0; have q1 := blkC hb 1; have q2 := blkC hb 2
         simp only [List.getElem?_toArray, List.getElem?_cons_zero, List.getElem?_cons_succ] at q0 q1 q2
         exact ⟨z0, z1, z2, z3, z4, d0, d1, d2, q0, q1, q2⟩
       replace hSv := Lib.hid hSv
       replace ho := Lib.hid ho; replace hxj := Lib.hid hxj
       have bD : Below w7.heap.size w7 w7.drew := (Below.refl _ w7).drew
       have TX := Lib.hid (T.out.below bD)
       clear T; have T := TX; clear TX
       have MX := Lib.hid (M.out.below bD)
       clear M; have M := MX; clear MX
       have OX := Lib.hid (SL.keep O.out bD)
       clear O; have O := OX; clear OX
       have RbX := Lib.hid ((bD.block _ (blkX Rb.out)).trans Rb.out)
       clear Rb; have Rb := RbX; clear RbX
       have hbX := Lib.hid ((bD.block _ (blkX hb.out)).trans hb.out)
       clear hb; have hb := hbX; clear hbX
       have hvX := Lib.hid ((bD.block _ (blkX hv.out)).trans hv.out)
       clear hv; have hv := hvX; clear hvX
       clear bD
       refine wp_region_held_drew (S := (fun w' : World => w'.cell? ⟨w3.heap.size + 1, 0, none⟩ = some (.int .u8 m1) ∧ w'.cell? ⟨w3.heap.size + 1, 1, none⟩ = some (.int .u8 m2) ∧ w'.cell? ⟨w3.heap.size + 1, 2, none⟩ = some (.int .u8 m3) ∧ w'.cell? ⟨w3.heap.size + 1, 3, none⟩ = some (.int .i32 m4) ∧ w'.cell? ⟨w3.heap.size + 1, 4, none⟩ = some (.int .u8 m5) ∧ w'.cell? ⟨xb, xo + j * 3, none⟩ = some (.int .i64 x1) ∧ w'.cell? ⟨xb, xo + j * 3 + 1, none⟩ = some (.int .i64 x2) ∧ w'.cell? ⟨xb, xo + j * 3 + 2, none⟩ = some (.int .i64 x3) ∧ w'.cell? ⟨w3.heap.size, 0, none⟩ = some (.int .i64 y1) ∧ w'.cell? ⟨w3.heap.size, 1, none⟩ = some (.int .i64 y2) ∧ w'.cell? ⟨w3.heap.size, 2, none⟩ = some (.int .i64 y3))) (by kernel_rfl) ?_ (fun hH => ?_)
       · exact hSv.out _ O.out hv.out hb.out
       refine wpAnyH_take (i := 0) (v := ?_) rfl (by kernel_rfl) (by kernel_rfl) (by kernel_rfl) (fun _ _ _ h => h) (Or.inl ⟨by rfl, by intro w hSw; go_simp; first | done | with_reducible rfl⟩) hH ?_
       simp only [List.getElem_toArray, List.getElem_cons_succ, List.getElem_cons_zero, Act.put, List.setIfInBounds_toArray, List.set_cons_zero, List.set_cons_succ]
       refine wpAnyH_take (i := 1) (v := ?_) rfl (by kernel_rfl) (by kernel_rfl) (by kernel_rfl) (fun _ _ _ h => h) (Or.inl ⟨by rfl, by intro w hSw; go_simp; first | done | with_reducible rfl⟩) hH ?_
       simp only [List.getElem_toArray, List.getElem_cons_succ, List.getElem_cons_zero, Act.put, List.setIfInBounds_toArray, List.set_cons_zero, List.set_cons_succ]
       refine wpAnyH_take (i := 2) (v := ?_) rfl (by kernel_rfl) (by kernel_rfl) (by kernel_rfl) (fun _ _ _ h => h) (Or.inl ⟨by rfl, by intro w hSw; go_simp; first | done | with_reducible rfl⟩) hH ?_
       simp only [List.getElem_toArray, List.getElem_cons_succ, List.getElem_cons_zero, Act.put, List.setIfInBounds_toArray, List.set_cons_zero, List.set_cons_succ]
       refine wpAnyH_take (i := 3) (v := ?_) rfl (by kernel_rfl) (by kernel_rfl) (by kernel_rfl) (fun _ _ _ h => h) (Or.inl ⟨by rfl, by intro w hSw; go_simp; first | done | with_reducible rfl⟩) hH ?_
       simp only [List.getElem_toArray, List.getElem_cons_succ, List.getElem_cons_zero, Act.put, List.setIfInBounds_toArray, List.set_cons_zero, List.set_cons_succ]
       refine wpAnyH_take (i := 4) (v := ?_) rfl (by kernel_rfl) (by kernel_rfl) (by kernel_rfl) (fun _ _ _ h => h) (Or.inl ⟨by rfl, by intro w hSw; obtain ⟨s0, s1, s2, s3, s4, s5, s6, s7, s8, s9, s10⟩ := hSw; go_simp; first | done | with_reducible rfl⟩) hH ?_
       simp only [List.getElem_toArray, List.getElem_cons_succ, List.getElem_cons_zero, Act.put, List.setIfInBounds_toArray, List.set_cons_zero, List.set_cons_succ]
       refine wpAnyH_ready (rs := [5]) (by kernel_rfl) (by simp) ?_
       refine AllReadyH.cons rfl (fun K hK => ?_) ?_
       · clear hH
         go_simp
         refine (hin _ Rb.out).mono ?_
         rintro e' V ⟨rfl, bV⟩
         have TX := Lib.hid (T.out.below bV)
         clear T; have T := TX; clear TX
         have MX := Lib.hid (M.out.below bV)
         clear M; have M := MX; clear MX
         have OX := Lib.hid (SL.keep O.out bV)
         clear O; have O := OX; clear OX
         have RbX := Lib.hid ((bV.block _ (blkX Rb.out)).trans Rb.out)
         clear Rb; have Rb := RbX; clear RbX
         have hbX := Lib.hid ((bV.block _ (blkX hb.out)).trans hb.out)
         clear hb; have hb := hbX; clear hbX
         have hvX := Lib.hid ((bV.block _ (blkX hv.out)).trans hv.out)
         clear hv; have hv := hvX; clear hvX
         clear bV
         refine hK.out _ _ (hSv.out _ O.out hv.out hb.out) (fun hH => ?_)
         clear hK K
         refine wpAnyH_take (i := 6) (v := ?_) rfl (by kernel_rfl) (by kernel_rfl) (by kernel_rfl) (fun _ _ _ h => h) (Or.inl ⟨by rfl, by intro w hSw; go_simp; first | done | with_reducible rfl⟩) hH ?_
         simp only [List.getElem_toArray, List.getElem_cons_succ, List.getElem_cons_zero, Act.put, List.setIfInBounds_toArray, List.set_cons_zero, List.set_cons_succ]
         refine wpAnyH_take (i := 7) (v := ?_) rfl (by kernel_rfl) (by kernel_rfl) (by kernel_rfl) (fun _ _ _ h => h) (Or.inl ⟨by rfl, by intro w hSw; go_simp; first | done | with_reducible rfl⟩) hH ?_
         simp only [List.getElem_toArray, List.getElem_cons_succ, List.getElem_cons_zero, Act.put, List.setIfInBounds_toArray, List.set_cons_zero, List.set_cons_succ]
         refine wpAnyH_take (i := 8) (v := ?_) rfl (by kernel_rfl) (by kernel_rfl) (by kernel_rfl) (fun _ _ _ h => h) (Or.inl ⟨by rfl, by intro w hSw; go_simp; first | done | with_reducible rfl⟩) hH ?_
         simp only [List.getElem_toArray, List.getElem_cons_succ, List.getElem_cons_zero, Act.put, List.setIfInBounds_toArray, List.set_cons_zero, List.set_cons_succ]
         refine wpAnyH_take (i := 9) (v := ?_) rfl (by kernel_rfl) (by kernel_rfl) (by kernel_rfl) (fun _ _ _ h => h) (Or.inl ⟨by rfl, by intro w hSw; go_simp; first | done | with_reducible rfl⟩) hH ?_
         simp only [List.getElem_toArray, List.getElem_cons_succ, List.getElem_cons_zero, Act.put, List.setIfInBounds_toArray, List.set_cons_zero, List.set_cons_succ]
         refine wpAnyH_take (i := 10) (v := ?_) rfl (by kernel_rfl) (by kernel_rfl) (by kernel_rfl) (fun _ _ _ h => h) (Or.inl ⟨by rfl, by intro w hSw; go_simp; first | done | with_reducible rfl⟩) hH ?_
         simp only [List.getElem_toArray, List.getElem_cons_succ, List.getElem_cons_zero, Act.put, List.setIfInBounds_toArray, List.set_cons_zero, List.set_cons_succ]
         refine wpAnyH_take (i := 11) (v := ?_) rfl (by kernel_rfl) (by kernel_rfl) (by kernel_rfl) (fun _ _ _ h => h) (Or.inl ⟨by rfl, by intro w hSw; go_simp; first | done | with_reducible rfl⟩) hH ?_
         simp only [List.getElem_toArray, List.getElem_cons_succ, List.getElem_cons_zero, Act.put, List.setIfInBounds_toArray, List.set_cons_zero, List.set_cons_succ]
         refine wpAnyH_take (i := 12) (v := ?_) rfl (by kernel_rfl) (by kernel_rfl) (by kernel_rfl) (fun _ _ _ h => h) (Or.inl ⟨by rfl, by intro w hSw; go_simp; first | done | with_reducible rfl⟩) hH ?_
         simp only [List.getElem_toArray, List.getElem_cons_succ, List.getElem_cons_zero, Act.put, List.setIfInBounds_toArray, List.set_cons_zero, List.set_cons_succ]
         refine wpAnyH_take (i := 13) (v := ?_) rfl (by kernel_rfl) (by kernel_rfl) (by kernel_rfl) (fun _ _ _ h => h) (Or.inl ⟨by rfl, by intro w hSw; go_simp; first | done | with_reducible rfl⟩) hH ?_
         simp only [List.getElem_toArray, List.getElem_cons_succ, List.getElem_cons_zero, Act.put, List.setIfInBounds_toArray, List.set_cons_zero, List.set_cons_succ]
         refine wpAnyH_take (i := 14) (v := ?_) rfl (by kernel_rfl) (by kernel_rfl) (by kernel_rfl) (fun _ _ _ h => h) (Or.inl ⟨by rfl, by intro w hSw; go_simp; first | done | with_reducible rfl⟩) hH ?_
         simp only [List.getElem_toArray, List.getElem_cons_succ, List.getElem_cons_zero, Act.put, List.setIfInBounds_toArray, List.set_cons_zero, List.set_cons_succ]
         refine wpAnyH_take (i := 15) (v := ?_) rfl (by kernel_rfl) (by kernel_rfl) (by kernel_rfl) (fun _ _ _ h => h) (Or.inl ⟨by rfl, by intro w hSw; go_simp; first | done | with_reducible rfl⟩) hH ?_
         simp only [List.getElem_toArray, List.getElem_cons_succ, List.getElem_cons_zero, Act.put, List.setIfInBounds_toArray, List.set_cons_zero, List.set_cons_succ]
         refine wpAnyH_take (i := 16) (v := ?_) rfl (by kernel_rfl) (by kernel_rfl) (by kernel_rfl) (fun _ _ _ h => h) (Or.inl ⟨by rfl, by intro w hSw; go_simp; first | done | with_reducible rfl⟩) hH ?_
         simp only [List.getElem_toArray, List.getElem_cons_succ, List.getElem_cons_zero, Act.put, List.setIfInBounds_toArray, List.set_cons_zero, List.set_cons_succ]
         refine wpAnyH_take (i := 17) (v := ?_) rfl (by kernel_rfl) (by kernel_rfl) (by kernel_rfl) (fun _ _ _ h => h) (Or.inl ⟨by rfl, by intro w hSw; go_simp; first | done | with_reducible rfl⟩) hH ?_
         simp only [List.getElem_toArray, List.getElem_cons_succ, List.getElem_cons_zero, Act.put, List.setIfInBounds_toArray, List.set_cons_zero, List.set_cons_succ]
         refine wpAnyH_take (i := 18) (v := ?_) rfl (by kernel_rfl) (by kernel_rfl) (by kernel_rfl) (fun _ _ _ h => h) (Or.inl ⟨by rfl, by intro w hSw; go_simp; first | done | with_reducible rfl⟩) hH ?_
         simp only [List.getElem_toArray, List.getElem_cons_succ, List.getElem_cons_zero, Act.put, List.setIfInBounds_toArray, List.set_cons_zero, List.set_cons_succ]
         refine wpAnyH_take (i := 19) (v := ?_) rfl (by kernel_rfl) (by kernel_rfl) (by kernel_rfl) (fun _ _ _ h => h) (Or.inl ⟨by rfl, by intro w hSw; obtain ⟨s0, s1, s2, s3, s4, s5, s6, s7, s8, s9, s10⟩ := hSw; go_simp; first | done | with_reducible rfl⟩) hH ?_
         simp only [List.getElem_toArray, List.getElem_cons_succ, List.getElem_cons_zero, Act.put, List.setIfInBounds_toArray, List.set_cons_zero, List.set_cons_succ]
         refine wpAnyH_take (i := 20) (v := ?_) rfl (by kernel_rfl) (by kernel_rfl) (by kernel_rfl) (fun _ _ _ h => h) (Or.inl ⟨by rfl, by intro w hSw; obtain ⟨s0, s1, s2, s3, s4, s5, s6, s7, s8, s9, s10⟩ := hSw; go_simp; first | done | with_reducible rfl⟩) hH ?_
         simp only [List.getElem_toArray, List.getElem_cons_succ, List.getElem_cons_zero, Act.put, List.setIfInBounds_toArray, List.set_cons_zero, List.set_cons_succ]
         refine wpAnyH_ready (rs := [21]) (by kernel_rfl) (by simp) ?_
         refine AllReadyH.cons rfl (fun K hK => ?_) ?_
         · clear hH
           go_simp
           refine (hord _).mono ?_
           rintro e' V2 ⟨rfl, bV⟩
           have TX := Lib.hid (T.out.below bV)
           clear T; have T := TX; clear TX
           have MX := Lib.hid (M.out.below bV)
           clear M; have M := MX; clear MX
           have OX := Lib.hid (SL.keep O.out bV)
           clear O; have O := OX; clear OX
           have RbX := Lib.hid ((bV.block _ (blkX Rb.out)).trans Rb.out)
           clear Rb; have Rb := RbX; clear RbX
           have hbX := Lib.hid ((bV.block _ (blkX hb.out)).trans hb.out)
           clear hb; have hb := hbX; clear hbX
           have hvX := Lib.hid ((bV.block _ (blkX hv.out)).trans hv.out)
           clear hv; have hv := hvX; clear hvX
           clear bV
           refine hK.out _ _ (hSv.out _ O.out hv.out hb.out) (fun hH => ?_)
           clear hK K
           refine wpAnyH_take (i := 22) (v := ?_) rfl (by kernel_rfl) (by kernel_rfl) (by kernel_rfl) (fun _ _ _ h => h) (Or.inl ⟨by rfl, by intro w hSw; go_simp; first | done | with_reducible rfl⟩) hH ?_
           simp only [List.getElem_toArray, List.getElem_cons_succ, List.getElem_cons_zero, Act.put, List.setIfInBounds_toArray, List.set_cons_zero, List.set_cons_succ]
           refine wpAnyH_take (i := 23) (v := ?_) rfl (by kernel_rfl) (by kernel_rfl) (by kernel_rfl) (fun _ _ _ h => h) (Or.inl ⟨by rfl, by intro w hSw; go_simp; first | done | with_reducible rfl⟩) hH ?_
           simp only [List.getElem_toArray, List.getElem_cons_succ, List.getElem_cons_zero, Act.put, List.setIfInBounds_toArray, List.set_cons_zero, List.set_cons_succ]
           refine wpAnyH_take (i := 24) (v := ?_) rfl (by kernel_rfl) (by kernel_rfl) (by kernel_rfl) (fun _ _ _ h => h) (Or.inl ⟨by rfl, by intro w hSw; go_simp; first | done | with_reducible rfl⟩) hH ?_
           simp only [List.getElem_toArray, List.getElem_cons_succ, List.getElem_cons_zero, Act.put, List.setIfInBounds_toArray, List.set_cons_zero, List.set_cons_succ]
           refine wpAnyH_done (by kernel_rfl) ?_ _
           clear hH hb hv
           go_wp2_with (fail)
           exact ⟨⟨(j + 1) + 1, by go_num, by omega, T.out, M.out, O.out, Rb.out⟩, by simp [intOf]; omega⟩
         exact AllReadyH.nil
       exact AllReadyH.nil
   · obtain rfl : k = Ol.length := by omega
     clear hlt hk
     have hal := hT.all
     replace hT := Lib.hid hT
     go_wp2_with (fail)
     refine hal.mono ?_
     rintro e w4 ⟨L2, m2, d2, rfl, rfl, E2, -, T4, b4⟩
     have M4 := Lib.hid (hM.below b4)
     have O4 := Lib.hid (SL.keep hO b4)
     have R4 := Lib.hid ((b4.block _ (blkX hRb)).trans hRb)
     replace T4 := Lib.hid T4; replace E2 := Lib.hid E2
     clear hal hT hM hO hRb b4
     have hs3 : P2.length ≤ 100 := by omega
     go_wp2_with (fail)
     go_loopw [135] (fun i wr => ∃ k : Nat, i = .int .i64 k ∧ k ≤ P2.length ∧ Tb w.heap.size w D 200 P2 wr ∧ MM wr B Q ∧ ES wr L Ol.length Ol ∧ wr.heap[R]? = some (.cells #[.string ga, .string gb] 25 (0, 0)) ∧ ES wr L2 P2.length (P2.map En.e)) (fun i _ => P2.length - (intOf i).toNat)
     case atStart => exact ⟨0, rfl, by omega, T4.out, M4.out, O4.out, R4.out, E2.out⟩
     case round =>
      clear T4 M4 O4 R4 E2
      revert wr
      intro w3 hrel
      obtain ⟨k, rfl, hk, hT, hM, hO, hRb, hE⟩ := hrel
      by_cases hlt : k < P2.length
      · obtain ⟨xb, xo, y, rfl, hxl, hy, c0, c1, c2⟩ := ES.at_ hE hlt
        obtain ⟨m, hmo, hme, hmk, hmi, hhas, hget, hkeyy⟩ := hSt.out y (List.mem_of_getElem? hy)
        have j1 : (k : Int) < P2.length := by omega
        obtain ⟨kl, hkl⟩ := key_mo hmk
        rw [hme] at hkl
        have hof := fun W => of_any hmk W
        have hin := fun W => in_any (R := R) (ga := ga) (gb := gb) hmk W
        obtain ⟨key, hkey⟩ : ∃ x, x = moK m := ⟨_, rfl⟩
        obtain ⟨r, hr⟩ : ∃ x, x = moR m := ⟨_, rfl⟩
        simp only [hme, ← hkey, ← hr] at hof
        rw [hmi] at hin
        rw [← hkey] at hkeyy
        rw [← hr] at hget
        have hmoq : (fQ Q (efV y)) = some (moV m) := by rw [fQ_ef, hmo]; rfl
        obtain ⟨m1, m2, m3, m4, m5, hmm⟩ : ∃ m1 m2 m3 m4 m5, m = (m1, m2, m3, m4, m5) := ⟨_, _, _, _, _, rfl⟩
        have hmoV : moV m = .agg #[.int .u8 m1, .int .u8 m2, .int .u8 m3, .int .i32 m4, .int .u8 m5] := by rw [hmm]; rfl
        rw [hmoV] at hmoq
        simp only [hmm] at hof hin
        obtain ⟨y1, y2, y3⟩ := y
        obtain ⟨r1, r2, r3⟩ := r
        simp only at hof hin c0 c1 c2
        clear hmm hmoV hme hmo hmk hmi hkey hr
        have bb := (Below.refl _ w3).alloc (Nat.le_refl _) (.cells #[.int .i64 y1, .int .i64 y2, .int .i64 y3] 23)
        have hb4 := hpNew w3 (.cells #[.int .i64 y1, .int .i64 y2, .int .i64 y3] 23)
        have T4 := hT.below bb
        have M4 := hM.below bb
        have O4 := SL.keep hO bb
        have E4 := SL.keep hE bb
        have R4 := (bb.block _ (blkX hRb)).trans hRb
        obtain ⟨w4, hw4⟩ : ∃ w4, w4 = w3.alloc (.cells #[.int .i64 y1, .int .i64 y2, .int .i64 y3] 23) := ⟨_, rfl⟩
        rw [← hw4] at bb hb4 T4 M4 O4 R4 E4
        obtain ⟨v, hlk, hv1, -⟩ := M4.look_ok keyLaw undMap (zeroMo w4) hkl
        obtain rfl := hv1 _ hmoq
        rw [hmoq] at hlk
        simp only [efV, Option.isSome_some] at hlk
        have x0 := blkC hb4 0; have x1 := blkC hb4 1; have x2 := blkC hb4 2
        simp only [List.getElem?_toArray, List.getElem?_cons_zero, List.getElem?_cons_succ] at x0 x1 x2
        have AV := (Below.refl _ w4).alloc (Nat.le_refl _) (.cells #[.int .u8 m1, .int .u8 m2, .int .u8 m3, .int .i32 m4, .int .u8 m5] 73)
        have T := Lib.hid (T4.below AV)
        have M := Lib.hid (M4.below AV)
        have O := Lib.hid (SL.keep O4 AV)
        have E := Lib.hid (SL.keep E4 AV)
        have Rb := Lib.hid ((AV.block _ (blkX R4)).trans R4)
        have hb5 := (AV.block _ (blkX hb4)).trans hb4
        have hv5 := hpNew w4 (.cells #[.int .u8 m1, .int .u8 m2, .int .u8 m3, .int .i32 m4, .int .u8 m5] 73)
        have hs4 : w4.heap.size = w3.heap.size + 1 := by rw [hw4]; simp
        rw [hs4] at hv5
        have v0 := blkC hv5 0; have v1 := blkC hv5 1; have v2 := blkC hv5 2; have v3 := blkC hv5 3; have v4 := blkC hv5 4
        simp only [List.getElem?_toArray, List.getElem?_cons_zero, List.getElem?_cons_succ] at v0 v1 v2 v3 v4
        obtain ⟨w5, hw5⟩ : ∃ x, x = w4.alloc (.cells #[.int .u8 m1, .int .u8 m2, .int .u8 m3, .int .i32 m4, .int .u8 m5] 73) := ⟨_, rfl⟩
        rw [← hw5] at T M O Rb hb5 hv5 E
        rw [hw4] at hlk
        have j0 : (0 : Int) ≤ k := by omega
        have hb := Lib.hid hb5; have hv := Lib.hid hv5; clear hb5 hv5
        replace T4 := Lib.hid T4; replace M4 := Lib.hid M4; replace O4 := Lib.hid O4; replace R4 := Lib.hid R4; replace hb4 := Lib.hid hb4; replace hkl := Lib.hid hkl; replace hmoq := Lib.hid hmoq; replace hs4 := Lib.hid hs4; replace bb := Lib.hid bb; replace AV := Lib.hid AV; replace hT := Lib.hid hT; replace hM := Lib.hid hM; replace hO := Lib.hid hO; replace hRb := Lib.hid hRb
        replace hE := Lib.hid hE; replace E4 := Lib.hid E4
        replace hhas := Lib.hid hhas; replace hget := Lib.hid hget; replace hkeyy := Lib.hid hkeyy; replace hy := Lib.hid hy
        go_wp2_with (fail)
        rw [← hw4, ← hw5]
        clear x0 x1 x2 v0 v1 v2 v3 v4 hlk c0 c1 c2
        replace hw4 := Lib.hid hw4; replace hw5 := Lib.hid hw5
        clear hT hM hO hRb hE T4 M4 O4 R4 E4 hb4 bb AV
        refine (hof _).mono ?_
        rintro e w6 ⟨rfl, b6⟩
        have TX := Lib.hid (T.out.below b6)
        clear T; have T := TX; clear TX
        have MX := Lib.hid (M.out.below b6)
        clear M; have M := MX; clear MX
        have OX := Lib.hid (SL.keep O.out b6)
        clear O; have O := OX; clear OX
        have EX := Lib.hid (SL.keep E.out b6)
        clear E; have E := EX; clear EX
        have RbX := Lib.hid ((b6.block _ (blkX Rb.out)).trans Rb.out)
        clear Rb; have Rb := RbX; clear RbX
        have hbX := Lib.hid ((b6.block _ (blkX hb.out)).trans hb.out)
        clear hb; have hb := hbX; clear hbX
        have hvX := Lib.hid ((b6.block _ (blkX hv.out)).trans hv.out)
        clear hv; have hv := hvX; clear hvX
        clear b6 hof
        have bq := ((Below.refl _ w6).alloc (Nat.le_refl _) (.cells #[.int .i64 y1, .int .i64 y2, .int .i64 y3] 23)).alloc (by simp) (.cells #[.int .i64 r1, .int .i64 r2, .string r3] 43)
        have hp0 := hpNew (w6.alloc (.cells #[.int .i64 y1, .int .i64 y2, .int .i64 y3] 23)) (.cells #[.int .i64 r1, .int .i64 r2, .string r3] 43)
        have hp : ((w6.alloc (.cells #[.int .i64 y1, .int .i64 y2, .int .i64 y3] 23)).alloc (.cells #[.int .i64 r1, .int .i64 r2, .string r3] 43)).heap[w6.heap.size + 1]? = some (.cells #[.int .i64 r1, .int .i64 r2, .string r3] 43 (0, 0)) := by rwa [show (w6.alloc (.cells #[.int .i64 y1, .int .i64 y2, .int .i64 y3] 23)).heap.size = w6.heap.size + 1 from by simp] at hp0
        clear hp0
        replace hp := Lib.hid hp
        have TX := Lib.hid (T.out.below bq)
        clear T; have T := TX; clear TX
        have MX := Lib.hid (M.out.below bq)
        clear M; have M := MX; clear MX
        have OX := Lib.hid (SL.keep O.out bq)
        clear O; have O := OX; clear OX
        have EX := Lib.hid (SL.keep E.out bq)
        clear E; have E := EX; clear EX
        have RbX := Lib.hid ((bq.block _ (blkX Rb.out)).trans Rb.out)
        clear Rb; have Rb := RbX; clear RbX
        have hbX := Lib.hid ((bq.block _ (blkX hb.out)).trans hb.out)
        clear hb; have hb := hbX; clear hbX
        have hvX := Lib.hid ((bq.block _ (blkX hv.out)).trans hv.out)
        clear hv; have hv := hvX; clear hvX
        clear bq
        have z0 := blkC hb.out 0; have z1 := blkC hb.out 1; have z2 := blkC hb.out 2
        simp only [List.getElem?_toArray, List.getElem?_cons_zero, List.getElem?_cons_succ] at z0 z1 z2
        have hg := T.out.get (y1, y2, y3)
        rw [hget.out, hhas.out] at hg
        simp only at hg
        go_wp2_with (fail)
        clear z0 z1 z2
        generalize ((w6.alloc (.cells #[.int .i64 y1, .int .i64 y2, .int .i64 y3] 23)).alloc (.cells #[.int .i64 r1, .int .i64 r2, .string r3] 43)) = w7 at *
        refine hg.mono ?_
        rintro e w8 ⟨rfl, -, b8⟩
        clear hg
        have TX := Lib.hid (T.out.below b8)
        clear T; have T := TX; clear TX
        have MX := Lib.hid (M.out.below b8)
        clear M; have M := MX; clear MX
        have OX := Lib.hid (SL.keep O.out b8)
        clear O; have O := OX; clear OX
        have EX := Lib.hid (SL.keep E.out b8)
        clear E; have E := EX; clear EX
        have RbX := Lib.hid ((b8.block _ (blkX Rb.out)).trans Rb.out)
        clear Rb; have Rb := RbX; clear RbX
        have hbX := Lib.hid ((b8.block _ (blkX hb.out)).trans hb.out)
        clear hb; have hb := hbX; clear hbX
        have hvX := Lib.hid ((b8.block _ (blkX hv.out)).trans hv.out)
        clear hv; have hv := hvX; clear hvX
        have hpX := Lib.hid ((b8.block _ (blkX hp.out)).trans hp.out)
        clear hp; have hp := hpX; clear hpX
        clear b8
        have bq := (Below.refl _ w8).alloc (Nat.le_refl _) (.cells #[.int .i64 r1, .int .i64 r2, .string r3] 43)
        have hq := Lib.hid (hpNew w8 (.cells #[.int .i64 r1, .int .i64 r2, .string r3] 43))
        have TX := Lib.hid (T.out.below bq)
        clear T; have T := TX; clear TX
        have MX := Lib.hid (M.out.below bq)
        clear M; have M := MX; clear MX
        have OX := Lib.hid (SL.keep O.out bq)
        clear O; have O := OX; clear OX
        have EX := Lib.hid (SL.keep E.out bq)
        clear E; have E := EX; clear EX
        have RbX := Lib.hid ((bq.block _ (blkX Rb.out)).trans Rb.out)
        clear Rb; have Rb := RbX; clear RbX
        have hbX := Lib.hid ((bq.block _ (blkX hb.out)).trans hb.out)
        clear hb; have hb := hbX; clear hbX
        have hvX := Lib.hid ((bq.block _ (blkX hv.out)).trans hv.out)
        clear hv; have hv := hvX; clear hvX
        have hpX := Lib.hid ((bq.block _ (blkX hp.out)).trans hp.out)
        clear hp; have hp := hpX; clear hpX
        clear bq
        have z0 := blkC hb.out 0; have z1 := blkC hb.out 1; have z2 := blkC hb.out 2
        simp only [List.getElem?_toArray, List.getElem?_cons_zero, List.getElem?_cons_succ] at z0 z1 z2
        have hg := T.out.key (y1, y2, y3)
        rw [hkeyy.out, hhas.out] at hg
        simp only at hg
        go_wp2_with (fail)
        clear z0 z1 z2
        generalize (w8.alloc (.cells #[.int .i64 r1, .int .i64 r2, .string r3] 43)) = w9 at *
        refine hg.mono ?_
        rintro e w10 ⟨rfl, -, b10⟩
        clear hg
        have TX := Lib.hid (T.out.below b10)
        clear T; have T := TX; clear TX
        have MX := Lib.hid (M.out.below b10)
        clear M; have M := MX; clear MX
        have OX := Lib.hid (SL.keep O.out b10)
        clear O; have O := OX; clear OX
        have EX := Lib.hid (SL.keep E.out b10)
        clear E; have E := EX; clear EX
        have RbX := Lib.hid ((b10.block _ (blkX Rb.out)).trans Rb.out)
        clear Rb; have Rb := RbX; clear RbX
        have hbX := Lib.hid ((b10.block _ (blkX hb.out)).trans hb.out)
        clear hb; have hb := hbX; clear hbX
        have hvX := Lib.hid ((b10.block _ (blkX hv.out)).trans hv.out)
        clear hv; have hv := hvX; clear hvX
        have hpX := Lib.hid ((b10.block _ (blkX hp.out)).trans hp.out)
        clear hp; have hp := hpX; clear hpX
        have hqX := Lib.hid ((b10.block _ (blkX hq.out)).trans hq.out)
        clear hq; have hq := hqX; clear hqX
        clear b10
        have z0 := blkC hv.out 0; have z1 := blkC hv.out 1; have z2 := blkC hv.out 2; have z3 := blkC hv.out 3; have z4 := blkC hv.out 4
        simp only [List.getElem?_toArray, List.getElem?_cons_zero, List.getElem?_cons_succ] at z0 z1 z2 z3 z4
        go_wp2_with (fail)
        refine (hin _ Rb.out).mono ?_
        rintro e w11 ⟨rfl, b11⟩
        clear z0 z1 z2 z3 z4
        have TX := Lib.hid (T.out.below b11)
        clear T; have T := TX; clear TX
        have MX := Lib.hid (M.out.below b11)
        clear M; have M := MX; clear MX
        have OX := Lib.hid (SL.keep O.out b11)
        clear O; have O := OX; clear OX
        have EX := Lib.hid (SL.keep E.out b11)
        clear E; have E := EX; clear EX
        have RbX := Lib.hid ((b11.block _ (blkX Rb.out)).trans Rb.out)
        clear Rb; have Rb := RbX; clear RbX
        have hbX := Lib.hid ((b11.block _ (blkX hb.out)).trans hb.out)
        clear hb; have hb := hbX; clear hbX
        have hvX := Lib.hid ((b11.block _ (blkX hv.out)).trans hv.out)
        clear hv; have hv := hvX; clear hvX
        have hpX := Lib.hid ((b11.block _ (blkX hp.out)).trans hp.out)
        clear hp; have hp := hpX; clear hpX
        have hqX := Lib.hid ((b11.block _ (blkX hq.out)).trans hq.out)
        clear hq; have hq := hqX; clear hqX
        clear b11
        have p0 := blkC hp.out 0; have p1 := blkC hp.out 1; have p2 := blkC hp.out 2
        simp only [List.getElem?_toArray, List.getElem?_cons_zero, List.getElem?_cons_succ] at p0 p1 p2
        have q0 := blkC hq.out 0; have q1 := blkC hq.out 1; have q2 := blkC hq.out 2
        simp only [List.getElem?_toArray, List.getElem?_cons_zero, List.getElem?_cons_succ] at q0 q1 q2
        go_wp2_with (fail)
        clear p0 p1 p2 q0 q1 q2
        exact ⟨⟨k + 1, by go_num, by omega, T.out, M.out, O.out, Rb.out, E.out⟩, by simp [intOf]; omega⟩
      · obtain rfl : k = P2.length := by omega
        clear hlt hk hE
        by_cases hz : Ol.length = 0
        · have hz1 : (Ol.length : Int) = 0 := by omega
          replace hT := Lib.hid hT
          clear hM hO hRb
          go_wp2_with (fail)
          refine (works_any _).mono ?_
          rintro e w4 ⟨rfl, b4⟩
          have B4 := Lib.hid (hT.out.bel.trans (b4.mono hT.out.le))
          clear b4 hT
          go_wp2_with (fail)
          go_ret
          exact ⟨rfl, B4.out⟩
        · have hz1 : ¬ (Ol.length : Int) = 0 := by omega
          have hz2 : (0 : Int) < Ol.length := by omega
          obtain ⟨xb, xo, y, rfl, hxl, hy, c0, c1, c2⟩ := ES.at_ hO (i := 0) (by omega)
          simp only [Nat.zero_mul, Nat.add_zero] at c0 c1 c2
          have hyO := List.mem_of_getElem? hy
          obtain ⟨m, hmo, hme, hmk, hmi, -, -⟩ := hTk.out y hyO
          obtain ⟨hp1, hp2⟩ := hAg.out y hyO m hmo
          obtain ⟨kl, hkl⟩ := key_mo hmk
          rw [hme] at hkl
          have hof := fun W => of_any hmk W
          have hen : enM m = ⟨y, moK m, moR m⟩ := by rw [← hme]; rfl
          have hkz : (moK m).size ≤ 140737488355328 := by show 1 ≤ _; omega
          obtain ⟨key, hkey⟩ : ∃ x, x = moK m := ⟨_, rfl⟩
          obtain ⟨r, hr⟩ : ∃ x, x = moR m := ⟨_, rfl⟩
          simp only [hme, ← hkey, ← hr] at hof
          rw [← hkey, ← hr] at hen
          rw [← hkey] at hkz
          rw [hen] at hp1 hp2
          have hmoq : (fQ Q (efV y)) = some (moV m) := by rw [fQ_ef, hmo]; rfl
          obtain ⟨m1, m2, m3, m4, m5, hmm⟩ : ∃ m1 m2 m3 m4 m5, m = (m1, m2, m3, m4, m5) := ⟨_, _, _, _, _, rfl⟩
          have hmoV : moV m = .agg #[.int .u8 m1, .int .u8 m2, .int .u8 m3, .int .i32 m4, .int .u8 m5] := by rw [hmm]; rfl
          rw [hmoV] at hmoq
          simp only [hmm] at hof
          obtain ⟨y1, y2, y3⟩ := y
          obtain ⟨r1, r2, r3⟩ := r
          simp only at hof c0 c1 c2
          have hlk := hM.look keyLaw undMap (zeroMo w3) hkl hmoq
          simp only [efV] at hlk
          have hRD : R ≠ D := by have := T0.out; have := hRR.out; omega
          clear hmm hmoV hme hmo hmk hmi hkey hr hyO hy hkl hmoq hen
          have T := Lib.hid hT; have M := Lib.hid hM; have Rb := Lib.hid hRb
          replace hp1 := Lib.hid hp1; replace hp2 := Lib.hid hp2
          clear hT hM hRb
          go_wp2_with (fail)
          refine (hof _).mono ?_
          rintro e w6 ⟨rfl, b6⟩
          have TX := Lib.hid (T.out.below b6)
          clear T; have T := TX; clear TX
          have MX := Lib.hid (M.out.below b6)
          clear M; have M := MX; clear MX
          have RbX := Lib.hid ((b6.block _ (blkX Rb.out)).trans Rb.out)
          clear Rb; have Rb := RbX; clear RbX
          clear b6 hof hlk c0 c1 c2 hO
          have bq := ((Below.refl _ w6).alloc (Nat.le_refl _) (.cells #[.int .i64 y1, .int .i64 y2, .int .i64 y3] 23)).alloc (by simp) (.cells #[.int .i64 r1, .int .i64 r2, .string r3] 43)
          have he0 : ((w6.alloc (.cells #[.int .i64 y1, .int .i64 y2, .int .i64 y3] 23)).alloc (.cells #[.int .i64 r1, .int .i64 r2, .string r3] 43)).heap[w6.heap.size]? = some (.cells #[.int .i64 y1, .int .i64 y2, .int .i64 y3] 23 (0, 0)) := by rw [hpOld _ (by simp)]; exact hpNew w6 _
          have hp0 := hpNew (w6.alloc (.cells #[.int .i64 y1, .int .i64 y2, .int .i64 y3] 23)) (.cells #[.int .i64 r1, .int .i64 r2, .string r3] 43)
          have hp : ((w6.alloc (.cells #[.int .i64 y1, .int .i64 y2, .int .i64 y3] 23)).alloc (.cells #[.int .i64 r1, .int .i64 r2, .string r3] 43)).heap[w6.heap.size + 1]? = some (.cells #[.int .i64 r1, .int .i64 r2, .string r3] 43 (0, 0)) := by rwa [show (w6.alloc (.cells #[.int .i64 y1, .int .i64 y2, .int .i64 y3] 23)).heap.size = w6.heap.size + 1 from by simp] at hp0
          have hD6 : D < w6.heap.size := T.out.lt
          have TX := Lib.hid (T.out.below bq)
          clear T; have T := TX; clear TX
          have MX := Lib.hid (M.out.below bq)
          clear M; have M := MX; clear MX
          have RbX := Lib.hid ((bq.block _ (blkX Rb.out)).trans Rb.out)
          clear Rb; have Rb := RbX; clear RbX
          have g0 := blkC Rb.out 0; have g1 := blkC Rb.out 1
          simp only [List.getElem?_toArray, List.getElem?_cons_zero, List.getElem?_cons_succ] at g0 g1
          have htk := T.out.takeM ga gb (by have := hgl.out; rw [this]; show 1 ≤ _; omega) (by have := hgbs.out; omega)
          have htc : takeC (ga, gb) = 0 := by unfold takeC; rw [if_pos hok.out]
          rw [htc, hTw.out.1, hTw.out.2] at htk
          replace he0 := Lib.hid he0; replace hp := Lib.hid hp; replace hD6 := Lib.hid hD6
          clear bq hp0 htc
          go_wp2_with (fail)
          clear g0 g1
          generalize ((w6.alloc (.cells #[.int .i64 y1, .int .i64 y2, .int .i64 y3] 23)).alloc (.cells #[.int .i64 r1, .int .i64 r2, .string r3] 43)) = w7 at *
          refine htk.mono ?_
          rintro e w8 ⟨L3, m3, d3, rfl, hm3, -, -, T8, kp, km, -⟩
          have hm3' : m3 = 0 := hm3
          subst hm3'
          have M8 := MapOf.km M.out km
          have he8 := kp _ _ _ _ he0.out (by have := hD6.out; omega) (by decide)
          have hp8 := kp _ _ _ _ hp.out (by have := hD6.out; omega) (by decide)
          have q0 := blkC he8 0; have q1 := blkC he8 1; have q2 := blkC he8 2
          have s0 := blkC hp8 0; have s1 := blkC hp8 1; have s2 := blkC hp8 2
          simp only [List.getElem?_toArray, List.getElem?_cons_zero, List.getElem?_cons_succ] at q0 q1 q2 s0 s1 s2
          have hput := T8.putM (y1, y2, y3) key (r1, r2, r3) hkz
          rw [hp1.out] at hput
          replace T8 := Lib.hid T8; replace M8 := Lib.hid M8
          clear htk kp km hm3 he0 hp he8 hp8 T M Rb hRD
          go_wp2_with (fail)
          refine hput.mono ?_
          rintro e w9 ⟨rfl, T9, -, km, -⟩
          have M9 := Lib.hid (MapOf.km M8.out km)
          have hro := T9.room (by omega)
          rw [hp2.out, show (200 : Int) - ((P2.length + 1 : Nat) : Int) = 200 - Q.length + Ol.length - 1 from by omega] at hro
          clear hput km T8 M8 q0 q1 q2 s0 s1 s2
          replace T9 := Lib.hid T9
          go_wp2_with (fail)
          refine hro.mono ?_
          rintro e w10 ⟨rfl, T10, b10⟩
          have M10 := M9.out.below b10
          have hlen := fun ty => M10.len undMap ty
          replace T10 := Lib.hid T10; replace M10 := Lib.hid M10
          clear hro T9 M9 b10
          go_wp2_with (fail)
          refine (works_any _).mono ?_
          rintro e w11 ⟨rfl, b11⟩
          have B11 := Lib.hid (T10.out.bel.trans (b11.mono T10.out.le))
          clear b11 T10 hlen
          go_wp2_with (fail)
          go_ret
          exact ⟨rfl, B11.out⟩
end Go.Proofs.YtkdfhackpmdgfaaDoor
