/- The greatest ballot: the reference's. -/
import Derived.Test.YtflpnokhcaepfaaDoorMax
import Derived.Deep.RegionHeld3
namespace Go.Proofs.YtflpnokhcaepfaaDoor
open Go.RowKit
set_option linter.unusedSimpArgs false
set_option linter.unusedVariables false
set_option linter.unusedSectionVars false
set_option maxRecDepth 10000
set_option maxHeartbeats 8000000 in
theorem rmax_any (A : Option Addr) (n c : Nat) (l : List (Int × Int)) (w : World) (h : BS w A n l) (hn : n ≤ 70368744177664) : Calls Tryd.prog 29 #[.slice A n c] w fun e w' => e = .returned (.agg #[.int .i64 (mx l).1, .int .i64 (mx l).2]) ∧ Below w.heap.size w w' := by
  by_cases hn0 : n = 0
  · subst hn0
    have hl : l = [] := List.eq_nil_of_length_eq_zero h.1
    subst hl
    go_enter Tryd.func29, Tryd.ntmps29
    go_wp2_with (fail)
    refine bodyPost_ret (by simp [results, Tryd.results29, go_sem, *]; try with_reducible rfl) rfl ?_
    exact ⟨rfl, by repeat (first | exact Below.refl _ _ | (refine Below.setCell ?_ (by simp) _) | (refine Below.alloc ?_ (by simp) _))⟩
  obtain ⟨b, o, x, rfl, hbl, hx, e0, e1⟩ := BS.at_ h (show 0 < n by omega)
  have hn1 : ((n : Int) == 0) = false := by simp; omega
  have hnp : 0 < n := by omega
  have hm1 := mx_one hx
  simp only [Nat.zero_mul, Nat.add_zero] at e0 e1
  clear hn0
  go_enter Tryd.func29, Tryd.ntmps29
  go_wp2_with (fail)
  have hN : MX w (w.heap.size + 1) (mx (l.take 1)) ((w.alloc (.cells #[.int .i64 0, .int .i64 0] 23)).alloc (.cells #[.int .i64 x.1, .int .i64 x.2] 23)) := by
    rw [hm1]
    exact ⟨((Below.refl _ w).alloc (Nat.le_refl _) _).alloc (by simp) _, hpNewAt _ (by simp), (hpOld _ (by simp)).trans (hpNew _ _)⟩
  replace hN := Lib.hid hN
  clear hm1 hx
  go_loopw [4] (fun i wr => ∃ k : Nat, 1 ≤ k ∧ k ≤ n ∧ i = .int .i64 k ∧ MX w (w.heap.size + 1) (mx (l.take k)) wr) (fun i _ => n - (intOf i).toNat)
  case atStart => exact ⟨1, by omega, by omega, rfl, hN.out⟩
  case round =>
    clear hN e0 e1
    obtain ⟨k, hk1, hk, rfl, hM⟩ := hrel
    have c0 := blkC hM.blk 0; have c1 := blkC hM.blk 1; have cf := blkF hM.blk; have cx := blkX hM.blk
    have d0 := blkC hM.res 0; have d1 := blkC hM.res 1; have df := blkF hM.res; have dx := blkX hM.res
    by_cases hlt : k < n
    · obtain ⟨b', o', x, ebo, hbl', hx, e0, e1⟩ := BS.at_ (h.keep hM.bel) hlt
      injection ebo with ebo
      injection ebo with eb eo
      subst eb eo
      have hmx := Lib.hid (mx_more hx (by omega))
      generalize mx (l.take k) = z at *
      replace hM := Lib.hid hM
      clear hx
      obtain ⟨r, hr⟩ : ∃ r, ordI z.1 z.2 x.1 x.2 = r := ⟨_, rfl⟩
      have hfl := ord_flip z.1 z.2 x.1 x.2
      rw [hr] at hfl
      by_cases hq : r < 0
      · have hst := Lib.hid (show mxStep z x = x from by unfold mxStep; rw [hfl, if_pos (by omega)])
        replace hr := Lib.hid hr
        clear hfl
        go_wp2_with (fail)
        go_region_held3 (fun w' => w'.cell? ⟨w.heap.size + 1, 0, none⟩ = some (.int .i64 z.1) ∧ w'.cell? ⟨w.heap.size + 1, 1, none⟩ = some (.int .i64 z.2) ∧ w'.cell? ⟨b, o + k * 2, none⟩ = some (.int .i64 x.1) ∧ w'.cell? ⟨b, o + k * 2 + 1, none⟩ = some (.int .i64 x.2)) (first | exact ⟨c0, c1, e0, e1⟩ | exact c0 | exact c1 | exact e0 | exact e1 | (simp [*]; done)) (first
          | (go_at_call 17; refine (rorder_any _ _ _ _ _).mono ?_; rintro e w6 ⟨he, b6⟩; rw [hr.out] at he; subst he; have h6 := hM.out.keep ((Below.refl _ wr).drew.trans b6); have q0 := (b6.cell (p := ⟨b, o + k * 2, none⟩) hbl').trans e0; have q1 := (b6.cell (p := ⟨b, o + k * 2 + 1, none⟩) hbl').trans e1; have c0 := blkC h6.blk 0; have c1 := blkC h6.blk 1; have gf := blkF h6.blk))
        go_wp2_with (fail)
        refine ⟨⟨k + 1, by omega, by omega, by go_num, ?_⟩, by simp [intOf]; omega⟩
        rw [hmx.out, hst.out]
        exact h6.set (by omega) x
      · have hst := Lib.hid (show mxStep z x = z from by unfold mxStep; rw [hfl, if_neg (by omega)])
        replace hr := Lib.hid hr
        clear hfl
        go_wp2_with (fail)
        go_region_held3 (fun w' => w'.cell? ⟨w.heap.size + 1, 0, none⟩ = some (.int .i64 z.1) ∧ w'.cell? ⟨w.heap.size + 1, 1, none⟩ = some (.int .i64 z.2) ∧ w'.cell? ⟨b, o + k * 2, none⟩ = some (.int .i64 x.1) ∧ w'.cell? ⟨b, o + k * 2 + 1, none⟩ = some (.int .i64 x.2)) (first | exact ⟨c0, c1, e0, e1⟩ | exact c0 | exact c1 | exact e0 | exact e1 | (simp [*]; done)) (first
          | (go_at_call 17; refine (rorder_any _ _ _ _ _).mono ?_; rintro e w6 ⟨he, b6⟩; rw [hr.out] at he; subst he; have h6 := hM.out.keep ((Below.refl _ wr).drew.trans b6); have q0 := (b6.cell (p := ⟨b, o + k * 2, none⟩) hbl').trans e0; have q1 := (b6.cell (p := ⟨b, o + k * 2 + 1, none⟩) hbl').trans e1; have c0 := blkC h6.blk 0; have c1 := blkC h6.blk 1; have gf := blkF h6.blk))
        go_wp2_with (fail)
        refine ⟨⟨k + 1, by omega, by omega, by go_num, ?_⟩, by simp [intOf]; omega⟩
        rw [hmx.out, hst.out]
        exact h6
    · have e1 : l.take k = l := List.take_of_length_le (by rw [h.1]; omega)
      rw [e1] at hM c0 c1
      clear e1
      replace hM := Lib.hid hM
      go_wp2_with (fail)
      refine bodyPost_ret (by simp [results, Tryd.results29, go_sem, *]; try with_reducible rfl) rfl ?_
      exact ⟨rfl, by have hz := hM.out.bel; repeat (first | exact hz | (refine Below.setCell ?_ (by simp) _))⟩
end Go.Proofs.YtflpnokhcaepfaaDoor
