/- WireBack: the walk. -/
import Derived.Test.YtcapeefhbkgogaaBackG
import Derived.Deep.RegionHeld3
namespace Go.Proofs.Ytcapeefhbkgogaa
open Go.RowKit
set_option linter.unusedSimpArgs false
set_option linter.unusedVariables false
set_option linter.unusedSectionVars false
set_option maxRecDepth 10000
attribute [local go_sem ↓] hideAppend
attribute [-go_sem] sliced
/-- A writer of the call's own. -/
def W1To (B : Nat) (w : World) (g : Nat) (xs : List UInt8) (W : World) : Prop := ∃ A c, WrO 46 B W g A c xs ∧ Below B w W
set_option maxHeartbeats 4000000 in
theorem back_walk (A : Option Addr) (n c : Nat) (vs : List VV) (x : Nat) (hx : x < 256) (w : World) (h : VS w.heap.size w A n vs) (hv : ∀ v ∈ vs, VV.Ok v) (hn : n ≤ 70368744177664) :
    Calls Try.prog 6 #[.slice A n c, .int .u8 x] w fun e w' => e = .returned (.bool true) ∧ Below w.heap.size w w' := by
  rcases Bool.eq_false_or_eq_true (fewB vs) with hf | hf
  · replace hf := Lib.hid hf
    go_enter Try.func6, Try.ntmps6
    go_wp2_with (fail)
    refine (few_any A n c vs _ h hv hn).mono ?_
    rintro e w1 ⟨he, b1⟩
    rw [hf.out] at he
    subst he
    go_wp2_with (fail)
    refine (wNew_any _).mono ?_
    rintro e w2 ⟨rfl, rfl⟩
    have hT0 : W1To w.heap.size w w1.heap.size (encs (vs.take 0)) (w1.alloc (.cells #[.bool true, .slice none 0 0] 46)) := by
      rw [show encs (vs.take 0) = [] from by simp [encs]]
      exact ⟨none, 0, WrO.new w1 b1.size, b1.alloc b1.size _⟩
    go_wp2_with (fail)
    go_loopw [23] (fun i wr => ∃ j : Nat, j ≤ n ∧ i = .int .i64 j ∧ (∀ v ∈ vs.take j, v.s.size ≤ 65536) ∧ W1To w.heap.size w w1.heap.size (encs (vs.take j)) wr) (fun i _ => n - (intOf i).toNat)
    case atStart => exact ⟨0, by omega, rfl, by simp, hT0⟩
    case round =>
      obtain ⟨j, hj, rfl, hsm, A1, c1, hT, bT⟩ := hrel
      clear hT0
      have hle := encs_take_len hv hf.out j
      by_cases hlt : j < n
      · obtain ⟨b, o, v, rfl, hbl, hvk, e1, e2, e3⟩ := (h.below bT).at_ hlt
        have hvm := List.mem_of_getElem? hvk
        have hok := hv v hvm
        by_cases hbig : 65536 < v.s.size
        · have hb1 : (65536 : Int) < (v.s.size : Int) := by omega
          clear hvk
          go_wp2_with (fail)
          refine (works_any _).mono ?_
          rintro e w2 ⟨rfl, b2⟩
          go_wp2_with (fail)
          go_ret
          exact ⟨rfl, (bT.alloc bT.size _).trans (b2.mono (Nat.le_trans bT.size (by simp)))⟩
        · have hb1 : ¬ (65536 : Int) < (v.s.size : Int) := by omega
          have htk := Lib.hid (encs_take hvk)
          have hsm2 : ∀ u ∈ vs.take (j + 1), u.s.size ≤ 65536 := by
            intro u hu
            obtain ⟨hi, rfl⟩ := List.getElem?_eq_some_iff.1 hvk
            rw [List.take_succ_eq_append_getElem hi] at hu
            rcases List.mem_append.1 hu with q | q
            · exact hsm u q
            · simp only [List.mem_singleton] at q
              subst q; omega
          clear hvk hsm
          have hb0 := (Below.refl _ wr).alloc (Nat.le_refl _) (.cells #[.int .u8 v.k, .int .u64 v.n, .string v.s] 31)
          have hT1 := hT.below hb0
          have bT1 := bT.alloc bT.size (.cells #[.int .u8 v.k, .int .u64 v.n, .string v.s] 31)
          go_wp2_with (fail)
          refine (put_any hT1.is (by omega) v hok (by omega)).mono ?_
          rintro e w2 ⟨rfl, t2⟩
          obtain ⟨A4, c4, hT2, bT2⟩ := hT1.step bT1 (Nat.le_trans bT.size hb0.size) t2
          rw [← htk.out] at hT2
          clear hT hT1 t2 e1 e2 e3 bT1 bT
          go_wp2_with (fail)
          go_roundw
          case rel => exact ⟨j + 1, by omega, by go_num, hsm2, _, _, hT2, bT2⟩
          case measure => simp [intOf]; omega
      · have htk := Lib.hid (show vs.take j = vs from List.take_of_length_le (by rw [h.1]; omega))
        rw [htk.out] at hT hle hsm
        have hle1 : (encs vs).length + 1 ≤ 101001 := by omega
        go_wp2_with (fail)
        refine (wBytes_any _ _ _ _ _ hT.is (by omega)).mono ?_
        rintro e w2 ⟨L, lc, rfl, o2, b2⟩
        have bt2 := bT.trans (b2.mono bT.size)
        have rL2 := RB.of_own o2
        have hcap := own_cap o2
        have hrL : ∀ k, rowOf L = some k → k < w2.heap.size := fun k hk => (o2.lt k (by rw [own_rowOf]; exact hk)).2
        clear hT o2
        go_wp2_with (fail)
        refine (read_any rL2 (by omega)).mono ?_
        rintro e w3 ⟨g3, A3, c3, rfl, l3, i3, hr3, b3⟩
        have bt3 := bt2.trans (b3.mono bt2.size)
        have rL3 := rL2.below b3
        go_wp2_with (fail)
        refine (clone_any rL3 lc (by omega)).mono ?_
        rintro e w4 ⟨M, mc, rfl, o4, b4⟩
        have bt4 := bt3.trans (b4.mono bt3.size)
        have rL4 := rL3.below b4
        have i4 := i3.below b4
        have hnewb := (Below.refl _ w4).alloc (Nat.le_refl _) (.cells #[.int .u8 x] 5)
        have rx := rb_lit (w := w4) [UInt8.ofNat x] #[.int .u8 x] (by simp [bvs, bv, ofNat_toNat hx])
        have o5 := own_held o4 fun k _ hk => hnewb.block k hk
        obtain ⟨Z, zc, w6, hrun, o6, hg6, _⟩ := append_rb (d := 1) o5 (Nat.le_trans b4.size hnewb.size) rx (by simp; omega)
        have hlx : [UInt8.ofNat x].length = 1 := rfl
        rw [hlx] at hrun
        have hlz := Lib.hid (show (encs vs ++ [UInt8.ofNat x]).length = (encs vs).length + 1 from by simp)
        have hrM : ∀ k, rowOf M = some k → w3.heap.size ≤ k := fun k hk => (o4.lt k (by rw [own_rowOf]; exact hk)).1
        have c6 := Chg.of_grown (S := fun k => w3.heap.size ≤ k) hg6 fun k e => hrM k e
        have i6 := (i4.below hnewb).keep c6 (by have := i3.lt; omega) (fun k hk e => by have := i3.old k hk; have := i3.lt; omega)
        have bt6 := Chg.belowAfter (bt4.alloc bt4.size (.cells #[.int .u8 x] 5)) c6 (Nat.le_trans bt4.size hnewb.size) (fun k hk e => by have := bt3.size; omega)
        have rL6 := (rL4.below hnewb).chg c6 fun k hk e => by have := hrL k hk; have := b3.size; omega
        clear hg6 c6 o5 i4 rL4 rL3 rL2 rx o4
        go_wp2_with (fail)
        have rZ : RB w6 Z ((encs vs).length + 1) (encs vs ++ [UInt8.ofNat x]) := by rw [← hlz.out]; exact RB.of_own o6
        refine (read_any rZ (by omega)).mono ?_
        rintro e w7 ⟨g7, A7, c7, rfl, l7, i7, hr7, b7⟩
        have z26 : w2.heap.size ≤ w6.heap.size := by have := i6.lt; omega
        have hG0 : G2 w2.heap.size w6 w7 g3 A3 c3 (some (encs (vs.drop 0))) g7 A7 c7 (some (encs (vs.drop 0) ++ [UInt8.ofNat x])) :=
          ⟨⟨i6.below b7, l3⟩, ⟨i7, by omega⟩, by have := i6.lt; omega, b7.mono z26⟩
        clear i6 i7 rZ o6 b7 hr3 hr7 i3
        go_wp2_with (fail)
        go_loopw [48] (fun i wr => ∃ j : Nat, j ≤ n ∧ i = .int .i64 j ∧ ∃ A1 c1 A2 c2, G2 w2.heap.size w6 wr g3 A1 c1 (some (encs (vs.drop j))) g7 A2 c2 (some (encs (vs.drop j) ++ [UInt8.ofNat x]))) (fun i _ => n - (intOf i).toNat)
        case atStart => exact ⟨0, by omega, rfl, _, _, _, _, hG0⟩
        case round =>
          obtain ⟨j, hj, rfl, B1, d1, B2, d2, hG⟩ := hrel
          clear hG0
          have bG := bt6.trans (hG.below.mono bt2.size)
          by_cases hlt : j < n
          · obtain ⟨b, o, v, rfl, hbl, hvk, e1, e2, e3⟩ := (h.below bG).at_ hlt
            have hvm := List.mem_of_getElem? hvk
            have hok := hv v hvm
            have hsv := hsm v hvm
            obtain ⟨ga, gav⟩ := get_enc v hok hsv (encs (vs.drop (j + 1)))
            obtain ⟨gb, gbv⟩ := get_enc v hok hsv (encs (vs.drop (j + 1)) ++ [UInt8.ofNat x])
            have hed := encs_drop hvk
            have hk8 := hok.k
            rw [hed, List.append_assoc] at hG
            have hR0 : G2B w2.heap.size w6 g3 (some (encV v ++ encs (vs.drop (j + 1)))) g7 (some (encV v ++ (encs (vs.drop (j + 1)) ++ [UInt8.ofNat x]))) wr.heap.size v (wr.alloc (.cells #[.int .u8 v.k, .int .u64 v.n, .string v.s] 31)) :=
              ⟨⟨_, _, _, _, hG.belowW ((Below.refl _ wr).alloc (Nat.le_refl _) _)⟩, heap_alloc_new wr _⟩
            have hR := Lib.hid hR0
            have q0 := blkC hR0.2 0; have q1 := blkC hR0.2 1; have q2 := blkC hR0.2 2; have q3 := blkX hR0.2
            replace ga := Lib.hid ga; replace gb := Lib.hid gb; replace gav := Lib.hid gav; replace gbv := Lib.hid gbv
            clear hG hed hvk hR0
            go_wp2_with (fail)
            go_region_held3 (fun w' => w'.cell? ⟨wr.heap.size, 0, none⟩ = some (.int .u8 v.k) ∧ w'.cell? ⟨wr.heap.size, 1, none⟩ = some (.int .u64 v.n) ∧ w'.cell? ⟨wr.heap.size, 2, none⟩ = some (.string v.s)) (first | exact ⟨q0, q1, q2⟩ | exact q0 | exact q1 | exact q2 | (simp [*]; done)) (first
              | (go_at_call 40; refine (G2B.getA (by first | exact hR.out | exact hR.out.drew) ga.out gav.out hk8).mono ?_; rintro e w8 ⟨rfl, hR'⟩; have q0 := blkC hR'.2 0; have q1 := blkC hR'.2 1; have q2 := blkC hR'.2 2; have q3 := blkX hR'.2; replace hR := Lib.hid hR'; clear hR')
              | (go_at_call 40; refine (G2B.getB (by first | exact hR.out | exact hR.out.drew) gb.out gbv.out hk8).mono ?_; rintro e w8 ⟨rfl, hR'⟩; have q0 := blkC hR'.2 0; have q1 := blkC hR'.2 1; have q2 := blkC hR'.2 2; have q3 := blkX hR'.2; replace hR := Lib.hid hR'; clear hR')
              | (go_at_call 41; refine (G2B.plain (by first | exact hR.out | exact hR.out.drew) hok).mono ?_; rintro e w8 ⟨rfl, hR'⟩; have q0 := blkC hR'.2 0; have q1 := blkC hR'.2 1; have q2 := blkC hR'.2 2; have q3 := blkX hR'.2; replace hR := Lib.hid hR'; clear hR'))
            all_goals
              have hlast := hR.out.1
              clear hR ga gb gav gbv e1 e2 e3 q0 q1 q2 q3
              go_wp2_with (fail)
              refine ⟨⟨j + 1, by omega, by go_num, ?_⟩, by simp [intOf]; omega⟩
              first | exact hlast | (obtain ⟨A5, c5, A6, c6, hq⟩ := hlast; exact ⟨A5, c5, A6, c6, hq.belowW (Below.drew (Below.refl _ _))⟩)
          · have hd0 : vs.drop j = [] := List.drop_eq_nil_of_le (by rw [h.1]; omega)
            have he0 : encs [] = [] := rfl
            rw [hd0, he0, List.nil_append] at hG
            have hE1 : endE' (some []) = 0 := rfl
            have hE2 : endE' (some [UInt8.ofNat x]) = 10 := rfl
            have hL1 : (left (some [])).length = 0 := rfl
            have hL2 : (left (some [UInt8.ofNat x])).length = 1 := rfl
            go_wp2_with (fail)
            refine (left_p hG.a.is).mono ?_
            rintro e w8 ⟨rfl, rfl⟩
            go_wp2_with (fail)
            refine (end_p hG.a.is).mono ?_
            rintro e w8 ⟨rfl, rfl⟩
            go_wp2_with (fail)
            refine (left_p hG.b.is).mono ?_
            rintro e w8 ⟨rfl, rfl⟩
            go_wp2_with (fail)
            refine (end_p hG.b.is).mono ?_
            rintro e w8 ⟨rfl, rfl⟩
            by_cases hz : n = 0
            · have hvs : vs = [] := List.length_eq_zero_iff.1 (by rw [h.1]; exact hz)
              subst hz hvs
              have hle0 : (encs []).length = 0 := rfl
              go_wp2_with (fail)
              refine (works_any _).mono ?_
              rintro e w9 ⟨rfl, b9⟩
              go_wp2_with (fail)
              go_ret
              exact ⟨rfl, bG.trans (b9.mono bG.size)⟩
            · have hnz : ((n : Int) == 0) = false := by simp; omega
              have hne : vs ≠ [] := fun e => hz (by rw [← h.1, e]; rfl)
              have hpos := List.length_pos_iff.2 (encs_ne hne)
              have hshort := Lib.hid (getVs_short vs hv hsm hne)
              obtain ⟨m, hm⟩ : ∃ m, (encs vs).length = m + 1 := ⟨(encs vs).length - 1, by omega⟩
              have hdl : (encs vs).dropLast = (encs vs).take m := by rw [List.dropLast_eq_take, hm]; rfl
              have rLw := rL6.keep hG.below.size fun k _ hk => hG.below.block k (hrL k hk)
              obtain ⟨X, hs1, rX⟩ := rLw.low (c := lc) (k := m) (by omega)
              rw [← hdl] at rX
              have hml : (((encs vs).length : Int) - 1) = (m : Int) := by omega
              have hb0 := bG.size
              clear hG rL6 hrun rLw
              go_wp2_with (fail)
              refine (read_any rX (by omega)).mono ?_
              rintro e w9 ⟨g9, A9, c9, rfl, l9, i9, hr9, b9⟩
              have hS0 : RdS w.heap.size w g9 (getVs (some (encs vs).dropLast) (vs.take 0)) w9 := ⟨A9, c9, ⟨i9, Nat.le_trans hb0 l9⟩, bG.trans (b9.mono hb0)⟩
              clear i9 b9 hr9
              go_wp2_with (fail)
              go_loopw [104] (fun i wr => ∃ j : Nat, j ≤ n ∧ i = .int .i64 j ∧ RdS w.heap.size w g9 (getVs (some (encs vs).dropLast) (vs.take j)) wr) (fun i _ => n - (intOf i).toNat)
              case atStart => exact ⟨0, by omega, rfl, hS0⟩
              case round =>
                obtain ⟨j, hj, rfl, B1, d1, o1, b1⟩ := hrel
                clear hS0
                by_cases hlt : j < n
                · obtain ⟨b, o, v, rfl, hbl, hvk, e1, e2, e3⟩ := (h.below b1).at_ hlt
                  have htk := Lib.hid (getVs_take (s := some (encs vs).dropLast) hvk)
                  have hk8 := (hv v (List.mem_of_getElem? hvk)).k
                  replace hvk := Lib.hid hvk
                  have hba := (Below.refl _ wr).alloc (Nat.le_refl _) (.cells #[.int .u8 v.k, .int .u64 v.n, .string v.s] 31)
                  have o2 := o1.is.below hba
                  have b2' := b1.alloc b1.size (.cells #[.int .u8 v.k, .int .u64 v.n, .string v.s] 31)
                  go_wp2_with (fail)
                  refine (get_any o2 v.k hk8).mono ?_
                  rintro e w10 ⟨rfl, t6⟩
                  have r6 := RdS.step ⟨o2, o1.low⟩ b2' (Nat.le_trans b1.size hba.size) t6
                  rw [← htk.out] at r6
                  clear o1 b1 t6 o2 b2' e1 e2 e3
                  go_wp2_with (fail)
                  exact ⟨⟨j + 1, by omega, by go_num, r6⟩, by simp [intOf]; omega⟩
                · have htk2 : vs.take j = vs := List.take_of_length_le (by rw [h.1]; omega)
                  rw [htk2, hshort.out] at o1
                  have hE3 : endE' none = 10 := rfl
                  have hL3 : (left none).length = 0 := rfl
                  go_wp2_with (fail)
                  refine (end_p o1.is).mono ?_
                  rintro e w10 ⟨rfl, rfl⟩
                  go_wp2_with (fail)
                  refine (left_p o1.is).mono ?_
                  rintro e w10 ⟨rfl, rfl⟩
                  go_wp2_with (fail)
                  refine (works_any _).mono ?_
                  rintro e w11 ⟨rfl, b11⟩
                  go_wp2_with (fail)
                  go_ret
                  exact ⟨rfl, b1.trans (b11.mono b1.size)⟩
  · replace hf := Lib.hid hf
    go_enter Try.func6, Try.ntmps6
    go_wp2_with (fail)
    refine (few_any A n c vs _ h hv hn).mono ?_
    rintro e w1 ⟨he, b1⟩
    rw [hf.out] at he
    subst he
    go_wp2_with (fail)
    refine (works_any _).mono ?_
    rintro e w2 ⟨rfl, b2⟩
    go_wp2_with (fail)
    go_ret
    exact ⟨rfl, b1.trans (b2.mono b1.size)⟩
end Go.Proofs.Ytcapeefhbkgogaa
