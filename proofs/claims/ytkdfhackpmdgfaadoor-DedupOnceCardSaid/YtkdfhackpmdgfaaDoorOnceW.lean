/- The walk of DedupOnce. -/
import Derived.Test.YtkdfhackpmdgfaaDoorEr
namespace Go.Proofs.YtkdfhackpmdgfaaDoor
open Go.RowKit Go.Shelf
set_option linter.unusedSimpArgs false
set_option linter.unusedVariables false
set_option linter.unusedSectionVars false
set_option maxRecDepth 10000
set_option maxHeartbeats 16000000 in
theorem once_walk {A : Option Addr} {n c : Nat} {ms : List Mo} (a : Int) (h0 : 0 ≤ a) (h1 : a ≤ 255) (w : World) (hA : MS w A n ms) (hm : ∀ m ∈ ms, okM m) (hc : n ≤ c) (hn : n ≤ 140737488355328) : Calls Tryd.prog 8 #[.int .u8 a, .slice A n c] w fun e w' => e = .returned (.bool true) ∧ Below w.heap.size w w' := by
  have hfi := filled_any (size := a % 64) w hA hm hc hn (by omega) (by omega)
  clear hA hm
  go_enter Tryd.func8, Tryd.ntmps8
  go_wp2_with (fail)
  refine hfi.mono ?_
  rintro e w1 ⟨D, B, P, Q, rfl, T1, M1, hF, hB, hQ⟩
  have hal := T1.all
  replace T1 := Lib.hid T1; replace M1 := Lib.hid M1; replace hF := Lib.hid hF; replace hQ := Lib.hid hQ
  clear hfi
  go_wp2_with (fail)
  refine hal.mono ?_
  rintro e w2 ⟨L, m, d, rfl, rfl, E2, R2, T2, b2⟩
  have M2 := M1.out.below b2
  have L2 : ER w2 L P.length (P.map En.e) := ⟨E2, fun g hg => (R2 g hg).2⟩
  have hlen := fun ty => M2.len undMap ty
  rw [← hF.out.len] at hlen
  replace T2 := Lib.hid T2; replace M2 := Lib.hid M2; replace L2 := Lib.hid L2
  clear hal E2 R2 T1 M1 b2
  have hPl : P.length ≤ 100 := by rw [hF.out.len]; exact hQ.out
  go_wp2_with (fail)
  go_loopw [40] (fun i wr => ∃ k : Nat, i = .int .i64 k ∧ k ≤ P.length ∧ Tb w.heap.size w D (a % 64) P wr ∧ MM wr B Q ∧ ER wr L P.length (P.map En.e)) (fun i _ => P.length - (intOf i).toNat)
  case atStart => exact ⟨0, rfl, by omega, T2.out, M2.out, L2.out⟩
  case round =>
   clear T2 M2 L2 hlen
   revert wr
   intro w3 hrel
   obtain ⟨k, rfl, hk, hT, hM, hL⟩ := hrel
   by_cases hlt : k < P.length
   · obtain ⟨xb, xo, y, rfl, hxl, hy, c0, c1, c2⟩ := ES.at_ hL.es hlt
     obtain ⟨m, hmo, hme, hok, hhas, hget, hkeyy⟩ := hF.out.member (List.mem_of_getElem? hy)
     obtain ⟨kl, hkl⟩ := key_mo hok
     rw [hme] at hkl
     have hof := fun W => of_any hok W
     obtain ⟨key, hkey⟩ : ∃ x, x = moK m := ⟨_, rfl⟩
     obtain ⟨r, hr⟩ : ∃ x, x = moR m := ⟨_, rfl⟩
     simp only [hme, ← hkey, ← hr] at hof
     rw [← hkey] at hkeyy
     rw [← hr] at hget
     have hokE : okE y = true := by rw [← hme]; exact okE_moE hok
     have hmoq : (fQ Q (efV y)) = some (moV m) := by rw [fQ_ef, hmo]; rfl
     obtain ⟨m1, m2, m3, m4, m5, hmm⟩ : ∃ m1 m2 m3 m4 m5, m = (m1, m2, m3, m4, m5) := ⟨_, _, _, _, _, rfl⟩
     have hmoV : moV m = .agg #[.int .u8 m1, .int .u8 m2, .int .u8 m3, .int .i32 m4, .int .u8 m5] := by rw [hmm]; rfl
     rw [hmoV] at hmoq
     simp only [hmm] at hof
     obtain ⟨y1, y2, y3⟩ := y
     obtain ⟨r1, r2, r3⟩ := r
     simp only at hof c0 c1 c2
     clear hmm hmoV hme hmo hok hkey hr
     have bb := (Below.refl _ w3).alloc (Nat.le_refl _) (.cells #[.int .i64 y1, .int .i64 y2, .int .i64 y3] 23)
     have hb4 := hpNew w3 (.cells #[.int .i64 y1, .int .i64 y2, .int .i64 y3] 23)
     have T4 := hT.below bb
     have M4 := hM.below bb
     have L4 := hL.below bb
     obtain ⟨w4, hw4⟩ : ∃ w4, w4 = w3.alloc (.cells #[.int .i64 y1, .int .i64 y2, .int .i64 y3] 23) := ⟨_, rfl⟩
     rw [← hw4] at bb hb4 T4 M4 L4
     obtain ⟨v, hlk, hv1, -⟩ := M4.look_ok keyLaw undMap (zeroMo w4) hkl
     obtain rfl := hv1 _ hmoq
     rw [hmoq] at hlk
     simp only [efV, Option.isSome_some] at hlk
     have x0 := blkC hb4 0; have x1 := blkC hb4 1; have x2 := blkC hb4 2
     simp only [List.getElem?_toArray, List.getElem?_cons_zero, List.getElem?_cons_succ] at x0 x1 x2
     have AV := (Below.refl _ w4).alloc (Nat.le_refl _) (.cells #[.int .u8 m1, .int .u8 m2, .int .u8 m3, .int .i32 m4, .int .u8 m5] 73)
     have T5 := Lib.hid (T4.below AV)
     have M5 := Lib.hid (M4.below AV)
     have L5 := L4.below AV
     have hb5 := (AV.block _ (blkX hb4)).trans hb4
     have hv5 := hpNew w4 (.cells #[.int .u8 m1, .int .u8 m2, .int .u8 m3, .int .i32 m4, .int .u8 m5] 73)
     obtain ⟨w5, hw5⟩ : ∃ x, x = w4.alloc (.cells #[.int .u8 m1, .int .u8 m2, .int .u8 m3, .int .i32 m4, .int .u8 m5] 73) := ⟨_, rfl⟩
     rw [← hw5] at T5 M5 L5 hb5 hv5
     have hs4 : w4.heap.size = w3.heap.size + 1 := by rw [hw4]; simp
     rw [hs4] at hv5
     rw [hw4] at hlk
     have j0 : (0 : Int) ≤ k := by omega
     have j1 : (k : Int) < P.length := by omega
     replace T4 := Lib.hid T4; replace M4 := Lib.hid M4; replace L4 := Lib.hid L4; replace L5 := Lib.hid L5; replace hb4 := Lib.hid hb4; replace hb5 := Lib.hid hb5; replace hv5 := Lib.hid hv5; replace hT := Lib.hid hT; replace hM := Lib.hid hM; replace hL := Lib.hid hL; replace hF := Lib.hid hF; replace hkl := Lib.hid hkl; replace hhas := Lib.hid hhas; replace hget := Lib.hid hget; replace hkeyy := Lib.hid hkeyy; replace hokE := Lib.hid hokE; replace hmoq := Lib.hid hmoq; replace hy := Lib.hid hy; replace hs4 := Lib.hid hs4
     replace bb := Lib.hid bb; replace AV := Lib.hid AV
     go_wp2_with (fail)
     rw [← hw4]
     rw [← hw5]
     clear x0 x1 x2 hlk
     replace hw4 := Lib.hid hw4; replace hw5 := Lib.hid hw5
     clear hT hM hL T4 M4 L4 hb4 bb AV
     by_cases hk0 : k = 0
     · subst hk0
       refine wp_region_any (by kernel_rfl) ?_
       try (change wpAny _ _ _ _ _ _ _ (World.drew _))
       refine wpAny_take (i := 0) (v := ?_) rfl (by kernel_rfl) (by kernel_rfl) (by kernel_rfl) (fun _ _ _ h => h) (Or.inl ⟨by rfl, by intro w; go_simp; first | done | with_reducible rfl⟩) ?_
       simp only [List.getElem_toArray, List.getElem_cons_succ, List.getElem_cons_zero, Act.put, List.setIfInBounds_toArray, List.set_cons_zero, List.set_cons_succ]
       refine wpAny_take (i := 1) (v := ?_) rfl (by kernel_rfl) (by kernel_rfl) (by kernel_rfl) (fun _ _ _ h => h) (Or.inl ⟨by rfl, by intro w; go_simp; first | done | with_reducible rfl⟩) ?_
       simp only [List.getElem_toArray, List.getElem_cons_succ, List.getElem_cons_zero, Act.put, List.setIfInBounds_toArray, List.set_cons_zero, List.set_cons_succ]
       refine wpAny_take (i := 2) (v := ?_) rfl (by kernel_rfl) (by kernel_rfl) (by kernel_rfl) (fun _ _ _ h => h) (Or.inl ⟨by rfl, by intro w; go_simp; first | done | with_reducible rfl⟩) ?_
       simp only [List.getElem_toArray, List.getElem_cons_succ, List.getElem_cons_zero, Act.put, List.setIfInBounds_toArray, List.set_cons_zero, List.set_cons_succ]
       refine wpAny_take (i := 3) (v := ?_) rfl (by kernel_rfl) (by kernel_rfl) (by kernel_rfl) (fun _ _ _ h => h) (Or.inl ⟨by rfl, by intro w; go_simp; first | done | with_reducible rfl⟩) ?_
       simp only [List.getElem_toArray, List.getElem_cons_succ, List.getElem_cons_zero, Act.put, List.setIfInBounds_toArray, List.set_cons_zero, List.set_cons_succ]
       refine wpAny_take (i := 4) (v := ?_) rfl (by kernel_rfl) (by kernel_rfl) (by kernel_rfl) (fun _ _ _ h => h) (Or.inl ⟨by rfl, by intro w; go_simp; first | done | with_reducible rfl⟩) ?_
       simp only [List.getElem_toArray, List.getElem_cons_succ, List.getElem_cons_zero, Act.put, List.setIfInBounds_toArray, List.set_cons_zero, List.set_cons_succ]
       refine wpAny_take (i := 5) (v := ?_) rfl (by kernel_rfl) (by kernel_rfl) (by kernel_rfl) (fun _ _ _ h => h) (Or.inl ⟨by rfl, by intro w; go_simp; first | done | with_reducible rfl⟩) ?_
       simp only [List.getElem_toArray, List.getElem_cons_succ, List.getElem_cons_zero, Act.put, List.setIfInBounds_toArray, List.set_cons_zero, List.set_cons_succ]
       refine wpAny_take (i := 6) (v := undef) rfl (by kernel_rfl) (by kernel_rfl) (by kernel_rfl) (fun _ _ _ h => h) (Or.inr ⟨by rfl, rfl⟩) ?_
       simp only [List.getElem_toArray, List.getElem_cons_succ, List.getElem_cons_zero, Act.put, List.setIfInBounds_toArray, List.set_cons_zero, List.set_cons_succ]
       refine wpAny_take (i := 7) (v := undef) rfl (by kernel_rfl) (by kernel_rfl) (by kernel_rfl) (fun _ _ _ h => h) (Or.inr ⟨by rfl, rfl⟩) ?_
       simp only [List.getElem_toArray, List.getElem_cons_succ, List.getElem_cons_zero, Act.put, List.setIfInBounds_toArray, List.set_cons_zero, List.set_cons_succ]
       refine wpAny_take (i := 8) (v := undef) rfl (by kernel_rfl) (by kernel_rfl) (by kernel_rfl) (fun _ _ _ h => h) (Or.inr ⟨by rfl, rfl⟩) ?_
       simp only [List.getElem_toArray, List.getElem_cons_succ, List.getElem_cons_zero, Act.put, List.setIfInBounds_toArray, List.set_cons_zero, List.set_cons_succ]
       refine wpAny_take (i := 9) (v := undef) rfl (by kernel_rfl) (by kernel_rfl) (by kernel_rfl) (fun _ _ _ h => h) (Or.inr ⟨by rfl, rfl⟩) ?_
       simp only [List.getElem_toArray, List.getElem_cons_succ, List.getElem_cons_zero, Act.put, List.setIfInBounds_toArray, List.set_cons_zero, List.set_cons_succ]
       refine wpAny_take (i := 10) (v := undef) rfl (by kernel_rfl) (by kernel_rfl) (by kernel_rfl) (fun _ _ _ h => h) (Or.inr ⟨by rfl, rfl⟩) ?_
       simp only [List.getElem_toArray, List.getElem_cons_succ, List.getElem_cons_zero, Act.put, List.setIfInBounds_toArray, List.set_cons_zero, List.set_cons_succ]
       refine wpAny_take (i := 11) (v := undef) rfl (by kernel_rfl) (by kernel_rfl) (by kernel_rfl) (fun _ _ _ h => h) (Or.inr ⟨by rfl, rfl⟩) ?_
       simp only [List.getElem_toArray, List.getElem_cons_succ, List.getElem_cons_zero, Act.put, List.setIfInBounds_toArray, List.set_cons_zero, List.set_cons_succ]
       refine wpAny_take (i := 12) (v := undef) rfl (by kernel_rfl) (by kernel_rfl) (by kernel_rfl) (fun _ _ _ h => h) (Or.inr ⟨by rfl, rfl⟩) ?_
       simp only [List.getElem_toArray, List.getElem_cons_succ, List.getElem_cons_zero, Act.put, List.setIfInBounds_toArray, List.set_cons_zero, List.set_cons_succ]
       refine wpAny_take (i := 13) (v := undef) rfl (by kernel_rfl) (by kernel_rfl) (by kernel_rfl) (fun _ _ _ h => h) (Or.inr ⟨by rfl, rfl⟩) ?_
       simp only [List.getElem_toArray, List.getElem_cons_succ, List.getElem_cons_zero, Act.put, List.setIfInBounds_toArray, List.set_cons_zero, List.set_cons_succ]
       refine wpAny_take (i := 14) (v := ?_) rfl (by kernel_rfl) (by kernel_rfl) (by kernel_rfl) (fun _ _ _ h => h) (Or.inl ⟨by rfl, by intro w; go_simp; first | done | with_reducible rfl⟩) ?_
       simp only [List.getElem_toArray, List.getElem_cons_succ, List.getElem_cons_zero, Act.put, List.setIfInBounds_toArray, List.set_cons_zero, List.set_cons_succ]
       refine wpAny_take (i := 15) (v := ?_) rfl (by kernel_rfl) (by kernel_rfl) (by kernel_rfl) (fun _ _ _ h => h) (Or.inl ⟨by rfl, by intro w; go_simp; first | done | with_reducible rfl⟩) ?_
       simp only [List.getElem_toArray, List.getElem_cons_succ, List.getElem_cons_zero, Act.put, List.setIfInBounds_toArray, List.set_cons_zero, List.set_cons_succ]
       refine wpAny_done (by kernel_rfl) ?_ _
       have T := Lib.hid (T5.out.below ((Below.refl _ w5).drew)); have M := Lib.hid (M5.out.below ((Below.refl _ w5).drew)); have L := Lib.hid (L5.out.below ((Below.refl _ w5).drew)); have hb := Lib.hid ((((Below.refl _ w5).drew).block _ (blkX hb5.out)).trans hb5.out); have hv := Lib.hid ((((Below.refl _ w5).drew).block _ (blkX hv5.out)).trans hv5.out)
       clear T5 M5 L5 hb5 hv5
       generalize w5.drew = V at *
       have z0 := blkC hv.out 0; have z1 := blkC hv.out 1; have z2 := blkC hv.out 2; have z3 := blkC hv.out 3; have z4 := blkC hv.out 4
       simp only [List.getElem?_toArray, List.getElem?_cons_zero, List.getElem?_cons_succ] at z0 z1 z2 z3 z4
       go_wp2_with (fail)
       refine (hof _).mono ?_
       rintro e w6 ⟨rfl, b6⟩
       have TX := Lib.hid (T.out.below b6)
       clear T; have T := TX; clear TX
       have MX := Lib.hid (M.out.below b6)
       clear M; have M := MX; clear MX
       have LX := Lib.hid (L.out.below b6)
       clear L; have L := LX; clear LX
       have hbX := Lib.hid ((b6.block _ (blkX hb.out)).trans hb.out)
       clear hb; have hb := hbX; clear hbX
       clear b6 hv z0 z1 z2 z3 z4
       have bq := ((Below.refl _ w6).alloc (Nat.le_refl _) (.cells #[.int .i64 y1, .int .i64 y2, .int .i64 y3] 23)).alloc (by simp) (.cells #[.int .i64 r1, .int .i64 r2, .string r3] 43)
       have hp0 := hpNew (w6.alloc (.cells #[.int .i64 y1, .int .i64 y2, .int .i64 y3] 23)) (.cells #[.int .i64 r1, .int .i64 r2, .string r3] 43)
       have hp : ((w6.alloc (.cells #[.int .i64 y1, .int .i64 y2, .int .i64 y3] 23)).alloc (.cells #[.int .i64 r1, .int .i64 r2, .string r3] 43)).heap[w6.heap.size + 1]? = some (.cells #[.int .i64 r1, .int .i64 r2, .string r3] 43 (0, 0)) := by rwa [show (w6.alloc (.cells #[.int .i64 y1, .int .i64 y2, .int .i64 y3] 23)).heap.size = w6.heap.size + 1 from by simp] at hp0
       clear hp0
       replace hp := Lib.hid hp
       have TX := Lib.hid (T.out.below bq)
       clear T; have T := TX; clear TX
       have MX := Lib.hid (M.out.below bq)
       clear M; have M := MX; clear MX
       have LX := Lib.hid (L.out.below bq)
       clear L; have L := LX; clear LX
       have hbX := Lib.hid ((bq.block _ (blkX hb.out)).trans hb.out)
       clear hb; have hb := hbX; clear hbX
       clear bq
       have z0 := blkC hb.out 0; have z1 := blkC hb.out 1; have z2 := blkC hb.out 2
       simp only [List.getElem?_toArray, List.getElem?_cons_zero, List.getElem?_cons_succ] at z0 z1 z2
       have hg := T.out.get (y1, y2, y3)
       rw [hget.out, hhas.out] at hg
       simp only at hg
       go_wp2_with (fail)
       clear z0 z1 z2
       generalize ((w6.alloc (.cells #[.int .i64 y1, .int .i64 y2, .int .i64 y3] 23)).alloc (.cells #[.int .i64 r1, .int .i64 r2, .string r3] 43)) = w7 at *
       refine hg.mono ?_
       rintro e w8 ⟨rfl, -, b8⟩
       clear hg
       have TX := Lib.hid (T.out.below b8)
       clear T; have T := TX; clear TX
       have MX := Lib.hid (M.out.below b8)
       clear M; have M := MX; clear MX
       have LX := Lib.hid (L.out.below b8)
       clear L; have L := LX; clear LX
       have hbX := Lib.hid ((b8.block _ (blkX hb.out)).trans hb.out)
       clear hb; have hb := hbX; clear hbX
       have hpX := Lib.hid ((b8.block _ (blkX hp.out)).trans hp.out)
       clear hp; have hp := hpX; clear hpX
       clear b8
       have bq := (Below.refl _ w8).alloc (Nat.le_refl _) (.cells #[.int .i64 r1, .int .i64 r2, .string r3] 43)
       have hq := Lib.hid (hpNew w8 (.cells #[.int .i64 r1, .int .i64 r2, .string r3] 43))
       have TX := Lib.hid (T.out.below bq)
       clear T; have T := TX; clear TX
       have MX := Lib.hid (M.out.below bq)
       clear M; have M := MX; clear MX
       have LX := Lib.hid (L.out.below bq)
       clear L; have L := LX; clear LX
       have hbX := Lib.hid ((bq.block _ (blkX hb.out)).trans hb.out)
       clear hb; have hb := hbX; clear hbX
       have hpX := Lib.hid ((bq.block _ (blkX hp.out)).trans hp.out)
       clear hp; have hp := hpX; clear hpX
       clear bq
       have z0 := blkC hb.out 0; have z1 := blkC hb.out 1; have z2 := blkC hb.out 2
       simp only [List.getElem?_toArray, List.getElem?_cons_zero, List.getElem?_cons_succ] at z0 z1 z2
       have hg := T.out.key (y1, y2, y3)
       rw [hkeyy.out, hhas.out] at hg
       simp only at hg
       go_wp2_with (fail)
       clear z0 z1 z2
       generalize (w8.alloc (.cells #[.int .i64 r1, .int .i64 r2, .string r3] 43)) = w9 at *
       refine hg.mono ?_
       rintro e w10 ⟨rfl, -, b10⟩
       clear hg
       have TX := Lib.hid (T.out.below b10)
       clear T; have T := TX; clear TX
       have MX := Lib.hid (M.out.below b10)
       clear M; have M := MX; clear MX
       have LX := Lib.hid (L.out.below b10)
       clear L; have L := LX; clear LX
       have hbX := Lib.hid ((b10.block _ (blkX hb.out)).trans hb.out)
       clear hb; have hb := hbX; clear hbX
       have hpX := Lib.hid ((b10.block _ (blkX hp.out)).trans hp.out)
       clear hp; have hp := hpX; clear hpX
       have hqX := Lib.hid ((b10.block _ (blkX hq.out)).trans hq.out)
       clear hq; have hq := hqX; clear hqX
       clear b10
       have z0 := blkC hb.out 0; have z1 := blkC hb.out 1; have z2 := blkC hb.out 2
       simp only [List.getElem?_toArray, List.getElem?_cons_zero, List.getElem?_cons_succ] at z0 z1 z2
       have p0 := blkC hp.out 0; have p1 := blkC hp.out 1; have p2 := blkC hp.out 2
       simp only [List.getElem?_toArray, List.getElem?_cons_zero, List.getElem?_cons_succ] at p0 p1 p2
       have q0 := blkC hq.out 0; have q1 := blkC hq.out 1; have q2 := blkC hq.out 2
       simp only [List.getElem?_toArray, List.getElem?_cons_zero, List.getElem?_cons_succ] at q0 q1 q2
       have hput := T.out.putM (y1, y2, y3) ⟨#[111, 116, 104, 101, 114]⟩ (0, 7, noText) (by decide)
       obtain ⟨hpc, hpl⟩ := put_have (size := a % 64) (key := ⟨#[111, 116, 104, 101, 114]⟩) (r := (0, 7, noText)) hokE.out (by decide +kernel) (by decide +kernel) hhas.out
       rw [hpc, hpl] at hput
       simp only at hput
       clear hpc hpl
       go_wp2_with (fail)
       refine hput.mono ?_
       rintro e w11 ⟨rfl, T11, kp, km, hs⟩
       have M11 := Lib.hid (MapOf.km M.out km)
       have L11 := Lib.hid (L.out.kp T.out kp)
       replace T11 := Lib.hid T11
       clear hput kp km hs z0 z1 z2 p0 p1 p2 q0 q1 q2 T M L hb hp hq
       go_wp2_with (fail)
       exact ⟨⟨0 + 1, by go_num, by omega, T11.out, M11.out, L11.out⟩, by simp [intOf]; omega⟩
     · obtain ⟨j, rfl⟩ : ∃ j, k = j + 1 := ⟨k - 1, by omega⟩
       obtain ⟨⟨x1, x2, x3⟩, hxj⟩ : ∃ x, (P.map En.e)[j]? = some x := ⟨_, List.getElem?_eq_getElem (by simp; omega)⟩
       have hlow := ord_next T5.out.ord hxj hy.out
       have i0 : (0 : Int) ≤ j := by omega
       have i1 : (j : Int) < P.length := by omega
       have iw : IntKind.i64.wrap (j : Int) = j := by simp [IntKind.wrap, IntKind.signed, IntKind.bits]; omega
       have hord := fun W => order_any (x1, x2, x3) (y1, y2, y3) W
       simp only at hord
       obtain ⟨o, ho⟩ : ∃ o, o = cmpE (x1, x2, x3) (y1, y2, y3) := ⟨_, rfl⟩
       rw [← ho] at hord hlow
       have ho0 : ¬ (0 : Int) ≤ o := by omega
       have hSv : ∀ W, ER W (some ⟨xb, xo, none⟩) P.length (P.map En.e) → W.heap[w3.heap.size]? = some (.cells #[.int .i64 y1, .int .i64 y2, .int .i64 y3] 23 (0, 0)) → (fun w' => w'.cell? ⟨xb, xo + j * 3, none⟩ = some (.int .i64 x1) ∧ w'.cell? ⟨xb, xo + j * 3 + 1, none⟩ = some (.int .i64 x2) ∧ w'.cell? ⟨xb, xo + j * 3 + 2, none⟩ = some (.int .i64 x3) ∧ w'.cell? ⟨w3.heap.size, 0, none⟩ = some (.int .i64 y1) ∧ w'.cell? ⟨w3.heap.size, 1, none⟩ = some (.int .i64 y2) ∧ w'.cell? ⟨w3.heap.size, 2, none⟩ = some (.int .i64 y3)) W := by
         intro W hL hb
         obtain ⟨b', o', e, hl, hc⟩ := hL.es.2 (by omega)
         injection e with e
         injection e with e1 e2
         subst e1 e2
         have d0 := hc j _ hxj 0 _ rfl; have d1 := hc j _ hxj 1 _ rfl; have d2 := hc j _ hxj 2 _ rfl
         have z0 := blkC hb 0; have z1 := blkC hb 1; have z2 := blkC hb 2
         simp only [List.getElem?_toArray, List.getElem?_cons_zero, List.getElem?_cons_succ] at z0 z1 z2
         exact ⟨d0, d1, d2, z0, z1, z2⟩
       replace ho := Lib.hid ho; replace hxj := Lib.hid hxj; replace hSv := Lib.hid hSv
       refine wp_region_held_drew (S := (fun w' => w'.cell? ⟨xb, xo + j * 3, none⟩ = some (.int .i64 x1) ∧ w'.cell? ⟨xb, xo + j * 3 + 1, none⟩ = some (.int .i64 x2) ∧ w'.cell? ⟨xb, xo + j * 3 + 2, none⟩ = some (.int .i64 x3) ∧ w'.cell? ⟨w3.heap.size, 0, none⟩ = some (.int .i64 y1) ∧ w'.cell? ⟨w3.heap.size, 1, none⟩ = some (.int .i64 y2) ∧ w'.cell? ⟨w3.heap.size, 2, none⟩ = some (.int .i64 y3))) (by kernel_rfl) ?_ (fun hH => ?_)
       · exact hSv.out _ (L5.out.below (Below.refl _ w5).drew) hb5.out
       refine wpAnyH_take (i := 0) (v := ?_) rfl (by kernel_rfl) (by kernel_rfl) (by kernel_rfl) (fun _ _ _ h => h) (Or.inl ⟨by rfl, by intro w hSw; go_simp; first | done | with_reducible rfl⟩) hH ?_
       simp only [List.getElem_toArray, List.getElem_cons_succ, List.getElem_cons_zero, Act.put, List.setIfInBounds_toArray, List.set_cons_zero, List.set_cons_succ]
       refine wpAnyH_take (i := 1) (v := ?_) rfl (by kernel_rfl) (by kernel_rfl) (by kernel_rfl) (fun _ _ _ h => h) (Or.inl ⟨by rfl, by intro w hSw; go_simp; first | done | with_reducible rfl⟩) hH ?_
       simp only [List.getElem_toArray, List.getElem_cons_succ, List.getElem_cons_zero, Act.put, List.setIfInBounds_toArray, List.set_cons_zero, List.set_cons_succ]
       refine wpAnyH_take (i := 2) (v := ?_) rfl (by kernel_rfl) (by kernel_rfl) (by kernel_rfl) (fun _ _ _ h => h) (Or.inl ⟨by rfl, by intro w hSw; go_simp; first | done | with_reducible rfl⟩) hH ?_
       simp only [List.getElem_toArray, List.getElem_cons_succ, List.getElem_cons_zero, Act.put, List.setIfInBounds_toArray, List.set_cons_zero, List.set_cons_succ]
       refine wpAnyH_take (i := 3) (v := ?_) rfl (by kernel_rfl) (by kernel_rfl) (by kernel_rfl) (fun _ _ _ h => h) (Or.inl ⟨by rfl, by intro w hSw; go_simp; first | done | with_reducible rfl⟩) hH ?_
       simp only [List.getElem_toArray, List.getElem_cons_succ, List.getElem_cons_zero, Act.put, List.setIfInBounds_toArray, List.set_cons_zero, List.set_cons_succ]
       refine wpAnyH_take (i := 4) (v := ?_) rfl (by kernel_rfl) (by kernel_rfl) (by kernel_rfl) (fun _ _ _ h => h) (Or.inl ⟨by rfl, by intro w hSw; go_simp; first | done | with_reducible rfl⟩) hH ?_
       simp only [List.getElem_toArray, List.getElem_cons_succ, List.getElem_cons_zero, Act.put, List.setIfInBounds_toArray, List.set_cons_zero, List.set_cons_succ]
       refine wpAnyH_take (i := 5) (v := ?_) rfl (by kernel_rfl) (by kernel_rfl) (by kernel_rfl) (fun _ _ _ h => h) (Or.inl ⟨by rfl, by intro w hSw; go_simp; first | done | with_reducible rfl⟩) hH ?_
       simp only [List.getElem_toArray, List.getElem_cons_succ, List.getElem_cons_zero, Act.put, List.setIfInBounds_toArray, List.set_cons_zero, List.set_cons_succ]
       refine wpAnyH_take (i := 6) (v := ?_) rfl (by kernel_rfl) (by kernel_rfl) (by kernel_rfl) (fun _ _ _ h => h) (Or.inl ⟨by rfl, by intro w hSw; go_simp; first | done | with_reducible rfl⟩) hH ?_
       simp only [List.getElem_toArray, List.getElem_cons_succ, List.getElem_cons_zero, Act.put, List.setIfInBounds_toArray, List.set_cons_zero, List.set_cons_succ]
       refine wpAnyH_take (i := 7) (v := ?_) rfl (by kernel_rfl) (by kernel_rfl) (by kernel_rfl) (fun _ _ _ h => h) (Or.inl ⟨by rfl, by intro w hSw; go_simp; first | done | with_reducible rfl⟩) hH ?_
       simp only [List.getElem_toArray, List.getElem_cons_succ, List.getElem_cons_zero, Act.put, List.setIfInBounds_toArray, List.set_cons_zero, List.set_cons_succ]
       refine wpAnyH_take (i := 8) (v := ?_) rfl (by kernel_rfl) (by kernel_rfl) (by kernel_rfl) (fun _ _ _ h => h) (Or.inl ⟨by rfl, by intro w hSw; go_simp; first | done | with_reducible rfl⟩) hH ?_
       simp only [List.getElem_toArray, List.getElem_cons_succ, List.getElem_cons_zero, Act.put, List.setIfInBounds_toArray, List.set_cons_zero, List.set_cons_succ]
       refine wpAnyH_take (i := 9) (v := ?_) rfl (by kernel_rfl) (by kernel_rfl) (by kernel_rfl) (fun _ _ _ h => h) (Or.inl ⟨by rfl, by intro w hSw; go_simp; first | done | with_reducible rfl⟩) hH ?_
       simp only [List.getElem_toArray, List.getElem_cons_succ, List.getElem_cons_zero, Act.put, List.setIfInBounds_toArray, List.set_cons_zero, List.set_cons_succ]
       refine wpAnyH_take (i := 10) (v := ?_) rfl (by kernel_rfl) (by kernel_rfl) (by kernel_rfl) (fun _ _ _ h => h) (Or.inl ⟨by rfl, by intro w hSw; obtain ⟨s0, s1, s2, s3, s4, s5⟩ := hSw; go_simp; first | done | with_reducible rfl⟩) hH ?_
       simp only [List.getElem_toArray, List.getElem_cons_succ, List.getElem_cons_zero, Act.put, List.setIfInBounds_toArray, List.set_cons_zero, List.set_cons_succ]
       refine wpAnyH_take (i := 11) (v := ?_) rfl (by kernel_rfl) (by kernel_rfl) (by kernel_rfl) (fun _ _ _ h => h) (Or.inl ⟨by rfl, by intro w hSw; obtain ⟨s0, s1, s2, s3, s4, s5⟩ := hSw; go_simp; first | done | with_reducible rfl⟩) hH ?_
       simp only [List.getElem_toArray, List.getElem_cons_succ, List.getElem_cons_zero, Act.put, List.setIfInBounds_toArray, List.set_cons_zero, List.set_cons_succ]
       refine wpAnyH_ready (rs := [12]) (by kernel_rfl) (by simp) ?_
       refine AllReadyH.cons rfl (fun K hK => ?_) ?_
       · clear hH
         go_simp
         refine (hord _).mono ?_
         rintro e' V ⟨rfl, bV⟩
         have bW := (Below.refl _ w5).drew.trans bV
         have T := Lib.hid (T5.out.below bW); have M := Lib.hid (M5.out.below bW); have L := Lib.hid (L5.out.below bW); have hb := Lib.hid ((bW.block _ (blkX hb5.out)).trans hb5.out); have hv := Lib.hid ((bW.block _ (blkX hv5.out)).trans hv5.out)
         clear T5 M5 L5 hb5 hv5
         clear bV bW
         refine hK.out _ _ (hSv.out _ L.out hb.out) (fun hH => ?_)
         clear hK K
         refine wpAnyH_take (i := 13) (v := ?_) rfl (by kernel_rfl) (by kernel_rfl) (by kernel_rfl) (fun _ _ _ h => h) (Or.inl ⟨by rfl, by intro w hSw; go_simp; first | done | with_reducible rfl⟩) hH ?_
         simp only [List.getElem_toArray, List.getElem_cons_succ, List.getElem_cons_zero, Act.put, List.setIfInBounds_toArray, List.set_cons_zero, List.set_cons_succ]
         refine wpAnyH_take (i := 14) (v := ?_) rfl (by kernel_rfl) (by kernel_rfl) (by kernel_rfl) (fun _ _ _ h => h) (Or.inl ⟨by rfl, by intro w hSw; go_simp; first | done | with_reducible rfl⟩) hH ?_
         simp only [List.getElem_toArray, List.getElem_cons_succ, List.getElem_cons_zero, Act.put, List.setIfInBounds_toArray, List.set_cons_zero, List.set_cons_succ]
         refine wpAnyH_take (i := 15) (v := ?_) rfl (by kernel_rfl) (by kernel_rfl) (by kernel_rfl) (fun _ _ _ h => h) (Or.inl ⟨by rfl, by intro w hSw; go_simp; first | done | with_reducible rfl⟩) hH ?_
         simp only [List.getElem_toArray, List.getElem_cons_succ, List.getElem_cons_zero, Act.put, List.setIfInBounds_toArray, List.set_cons_zero, List.set_cons_succ]
         refine wpAnyH_done (by kernel_rfl) ?_ _
         clear hH
         have z0 := blkC hv.out 0; have z1 := blkC hv.out 1; have z2 := blkC hv.out 2; have z3 := blkC hv.out 3; have z4 := blkC hv.out 4
         simp only [List.getElem?_toArray, List.getElem?_cons_zero, List.getElem?_cons_succ] at z0 z1 z2 z3 z4
         go_wp2_with (fail)
         refine (hof _).mono ?_
         rintro e w6 ⟨rfl, b6⟩
         have TX := Lib.hid (T.out.below b6)
         clear T; have T := TX; clear TX
         have MX := Lib.hid (M.out.below b6)
         clear M; have M := MX; clear MX
         have LX := Lib.hid (L.out.below b6)
         clear L; have L := LX; clear LX
         have hbX := Lib.hid ((b6.block _ (blkX hb.out)).trans hb.out)
         clear hb; have hb := hbX; clear hbX
         clear b6 hv z0 z1 z2 z3 z4
         have bq := ((Below.refl _ w6).alloc (Nat.le_refl _) (.cells #[.int .i64 y1, .int .i64 y2, .int .i64 y3] 23)).alloc (by simp) (.cells #[.int .i64 r1, .int .i64 r2, .string r3] 43)
         have hp0 := hpNew (w6.alloc (.cells #[.int .i64 y1, .int .i64 y2, .int .i64 y3] 23)) (.cells #[.int .i64 r1, .int .i64 r2, .string r3] 43)
         have hp : ((w6.alloc (.cells #[.int .i64 y1, .int .i64 y2, .int .i64 y3] 23)).alloc (.cells #[.int .i64 r1, .int .i64 r2, .string r3] 43)).heap[w6.heap.size + 1]? = some (.cells #[.int .i64 r1, .int .i64 r2, .string r3] 43 (0, 0)) := by rwa [show (w6.alloc (.cells #[.int .i64 y1, .int .i64 y2, .int .i64 y3] 23)).heap.size = w6.heap.size + 1 from by simp] at hp0
         clear hp0
         replace hp := Lib.hid hp
         have TX := Lib.hid (T.out.below bq)
         clear T; have T := TX; clear TX
         have MX := Lib.hid (M.out.below bq)
         clear M; have M := MX; clear MX
         have LX := Lib.hid (L.out.below bq)
         clear L; have L := LX; clear LX
         have hbX := Lib.hid ((bq.block _ (blkX hb.out)).trans hb.out)
         clear hb; have hb := hbX; clear hbX
         clear bq
         have z0 := blkC hb.out 0; have z1 := blkC hb.out 1; have z2 := blkC hb.out 2
         simp only [List.getElem?_toArray, List.getElem?_cons_zero, List.getElem?_cons_succ] at z0 z1 z2
         have hg := T.out.get (y1, y2, y3)
         rw [hget.out, hhas.out] at hg
         simp only at hg
         go_wp2_with (fail)
         clear z0 z1 z2
         generalize ((w6.alloc (.cells #[.int .i64 y1, .int .i64 y2, .int .i64 y3] 23)).alloc (.cells #[.int .i64 r1, .int .i64 r2, .string r3] 43)) = w7 at *
         refine hg.mono ?_
         rintro e w8 ⟨rfl, -, b8⟩
         clear hg
         have TX := Lib.hid (T.out.below b8)
         clear T; have T := TX; clear TX
         have MX := Lib.hid (M.out.below b8)
         clear M; have M := MX; clear MX
         have LX := Lib.hid (L.out.below b8)
         clear L; have L := LX; clear LX
         have hbX := Lib.hid ((b8.block _ (blkX hb.out)).trans hb.out)
         clear hb; have hb := hbX; clear hbX
         have hpX := Lib.hid ((b8.block _ (blkX hp.out)).trans hp.out)
         clear hp; have hp := hpX; clear hpX
         clear b8
         have bq := (Below.refl _ w8).alloc (Nat.le_refl _) (.cells #[.int .i64 r1, .int .i64 r2, .string r3] 43)
         have hq := Lib.hid (hpNew w8 (.cells #[.int .i64 r1, .int .i64 r2, .string r3] 43))
         have TX := Lib.hid (T.out.below bq)
         clear T; have T := TX; clear TX
         have MX := Lib.hid (M.out.below bq)
         clear M; have M := MX; clear MX
         have LX := Lib.hid (L.out.below bq)
         clear L; have L := LX; clear LX
         have hbX := Lib.hid ((bq.block _ (blkX hb.out)).trans hb.out)
         clear hb; have hb := hbX; clear hbX
         have hpX := Lib.hid ((bq.block _ (blkX hp.out)).trans hp.out)
         clear hp; have hp := hpX; clear hpX
         clear bq
         have z0 := blkC hb.out 0; have z1 := blkC hb.out 1; have z2 := blkC hb.out 2
         simp only [List.getElem?_toArray, List.getElem?_cons_zero, List.getElem?_cons_succ] at z0 z1 z2
         have hg := T.out.key (y1, y2, y3)
         rw [hkeyy.out, hhas.out] at hg
         simp only at hg
         go_wp2_with (fail)
         clear z0 z1 z2
         generalize (w8.alloc (.cells #[.int .i64 r1, .int .i64 r2, .string r3] 43)) = w9 at *
         refine hg.mono ?_
         rintro e w10 ⟨rfl, -, b10⟩
         clear hg
         have TX := Lib.hid (T.out.below b10)
         clear T; have T := TX; clear TX
         have MX := Lib.hid (M.out.below b10)
         clear M; have M := MX; clear MX
         have LX := Lib.hid (L.out.below b10)
         clear L; have L := LX; clear LX
         have hbX := Lib.hid ((b10.block _ (blkX hb.out)).trans hb.out)
         clear hb; have hb := hbX; clear hbX
         have hpX := Lib.hid ((b10.block _ (blkX hp.out)).trans hp.out)
         clear hp; have hp := hpX; clear hpX
         have hqX := Lib.hid ((b10.block _ (blkX hq.out)).trans hq.out)
         clear hq; have hq := hqX; clear hqX
         clear b10
         have z0 := blkC hb.out 0; have z1 := blkC hb.out 1; have z2 := blkC hb.out 2
         simp only [List.getElem?_toArray, List.getElem?_cons_zero, List.getElem?_cons_succ] at z0 z1 z2
         have p0 := blkC hp.out 0; have p1 := blkC hp.out 1; have p2 := blkC hp.out 2
         simp only [List.getElem?_toArray, List.getElem?_cons_zero, List.getElem?_cons_succ] at p0 p1 p2
         have q0 := blkC hq.out 0; have q1 := blkC hq.out 1; have q2 := blkC hq.out 2
         simp only [List.getElem?_toArray, List.getElem?_cons_zero, List.getElem?_cons_succ] at q0 q1 q2
         have hput := T.out.putM (y1, y2, y3) ⟨#[111, 116, 104, 101, 114]⟩ (0, 7, noText) (by decide)
         obtain ⟨hpc, hpl⟩ := put_have (size := a % 64) (key := ⟨#[111, 116, 104, 101, 114]⟩) (r := (0, 7, noText)) hokE.out (by decide +kernel) (by decide +kernel) hhas.out
         rw [hpc, hpl] at hput
         simp only at hput
         clear hpc hpl
         go_wp2_with (fail)
         refine hput.mono ?_
         rintro e w11 ⟨rfl, T11, kp, km, hs⟩
         have M11 := Lib.hid (MapOf.km M.out km)
         have L11 := Lib.hid (L.out.kp T.out kp)
         replace T11 := Lib.hid T11
         clear hput kp km hs z0 z1 z2 p0 p1 p2 q0 q1 q2 T M L hb hp hq
         go_wp2_with (fail)
         exact ⟨⟨(j + 1) + 1, by go_num, by omega, T11.out, M11.out, L11.out⟩, by simp [intOf]; omega⟩
       exact AllReadyH.nil
   · obtain rfl : k = P.length := by omega
     clear hlt hk
     replace hT := Lib.hid hT
     clear hM hL
     go_wp2_with (fail)
     refine (works_any _).mono ?_
     rintro e w6 ⟨rfl, b6⟩
     have B6 := Lib.hid (hT.out.bel.trans (b6.mono hT.out.le))
     clear b6 hT
     go_wp2_with (fail)
     go_ret
     exact ⟨rfl, B6.out⟩
end Go.Proofs.YtkdfhackpmdgfaaDoor
