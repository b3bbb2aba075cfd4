/- The sagas of effects: the document's. -/
import Derived.Test.YthmkfbabacehnaaRSagP
import Derived.Deep.QuietTactic
import Derived.BigQuiet
namespace Go.Proofs.Ythmkfbabacehnaa
open Go.RowKit Go.Shelf
set_option linter.unusedSimpArgs false
set_option linter.unusedVariables false
set_option linter.unusedSectionVars false
set_option maxRecDepth 10000
attribute [local go_sem ↓] hideAppend
attribute [-go_sem] sliced
theorem catI {w W : World} {A B : Option Addr} {n c m d : Nat} {l r : List Int} (h : OwnI w A n c l W) (h2 : SL encI1 1 W B m r) (hn : n ≤ 100000) (hm : m ≤ 100000) :
    ∃ A' c' W', (appSem #[43, 43] 43 #[.slice A n c, .slice B m d]).run Try.prog W = .ok (.slice A' (n + m) c') W' ∧ OwnI w A' (n + m) c' (l ++ r) W' := by
  obtain ⟨A', c', w1, hrun, hcap, hown, hgr, hat⟩ := append_sl elemI encI1_len encI1_one (ty := 43) (d := d) h.own h.bel.size h2 (by omega) (by omega)
  exact ⟨A', c', w1, hrun, h.bel.trans (below_of_grown hgr h.bel.size fun g hg => (own_row h.own g hg).1), hown, by simp [h.len, h2.1], hcap⟩
theorem copyI {A : Option Addr} {n c : Nat} {l : List Int} {w : World} (h : SL encI1 1 w A n l) (hn : n ≤ 100000) : ∃ A' c' W', (appSem #[43, 43] 43 #[.slice (some ⟨w.heap.size, 0, none⟩) 0 0, .slice A n c]).run Try.prog (w.alloc (.cells #[] 3)) = .ok (.slice A' n c') W' ∧ OwnI w A' n c' l W' := by
  have hbw := (Below.refl w.heap.size w).alloc (Nat.le_refl _) (.cells #[] 3)
  have h0 : OwnI w (some ⟨w.heap.size, 0, none⟩) 0 0 [] (w.alloc (.cells #[] 3)) := ⟨hbw, ⟨rfl, .inr ⟨w.heap.size, 0, #[], rfl, Nat.le_refl _, hpNew w _, Nat.le_refl _, Nat.zero_le _, rfl, rfl⟩⟩, rfl, Nat.le_refl _⟩
  obtain ⟨A', c', W', hrun, hO⟩ := catI (d := c) h0 (SL.keep h hbw) (by omega) hn
  rw [Nat.zero_add] at hrun hO
  exact ⟨A', c', W', hrun, hO⟩
theorem OwnI.re {w w0 W : World} {A : Option Addr} {n c : Nat} {l : List Int} (h : OwnI w A n c l W) (hb : Below w0.heap.size w0 w) : OwnI w0 A n c l W := ⟨hb.trans (h.bel.mono hb.size), ownsRow_re h.own hb.size, h.len, h.cap⟩
/-- The sagas of a list, in order, each once. -/
structure SagsOf (l : List Ef) (o : List Int) : Prop where
  inc : o.Pairwise (· < ·)
  mem : ∀ v, v ∈ o ↔ ∃ x ∈ l, x.1 = v
theorem SagsOf.more {l : List Ef} {o : List Int} {j k : Nat} {x : Ef} (h : SagsOf (l.take j) o) (hx : l[j]? = some x) (hk : PutAt o k x.1) : SagsOf (l.take (j + 1)) (insI o k x.1) := by
  refine ⟨insI_inc h.inc hk, fun v => ?_⟩
  rw [insI_mem, h.mem, List.take_add_one, hx]
  simp only [Option.toList, List.mem_append, List.mem_singleton]
  constructor
  · rintro (rfl | ⟨y, hy, rfl⟩)
    · exact ⟨x, .inr rfl, rfl⟩
    · exact ⟨y, .inl hy, rfl⟩
  · rintro ⟨y, hy | rfl, rfl⟩
    · exact .inr ⟨y, hy, rfl⟩
    · exact .inl rfl
theorem insI_len (o : List Int) (k : Nat) (x : Int) : (insI o k x).length ≤ o.length + 1 := by
  unfold insI; split
  · omega
  · simp [List.length_take, List.length_drop]; omega
set_option maxHeartbeats 16000000 in
theorem rsagas_any (A : Option Addr) (n c : Nat) (l : List Ef) (w : World) (h1 : ES w A n l) (hn : n ≤ 1000) :
    Calls Try.prog 20 #[.slice A n c] w fun e w' => ∃ A' n' c' o, e = .returned (.slice A' n' c') ∧ n' ≤ n ∧ OwnI w A' n' c' o w' ∧ SagsOf l o := by
  have hl := h1.1
  replace h1 := Lib.hid h1
  go_enter Try.func20, Try.ntmps20
  go_wp2_with (fail)
  go_loopw [3, 4] (fun v i wr => ∃ (j : Nat) (A' : Option Addr) (n' c' : Nat) (o : List Int), j ≤ n ∧ n' ≤ j ∧ i = .int .i64 j ∧ v = .slice A' n' c' ∧ OwnI w A' n' c' o wr ∧ SagsOf (l.take j) o) (fun _ i _ => n - (intOf i).toNat)
  case atStart => exact ⟨0, none, 0, 0, [], by omega, by omega, rfl, rfl, ⟨Below.refl _ _, ⟨rfl, .inl ⟨rfl, rfl⟩⟩, rfl, Nat.le_refl _⟩, ⟨by simp, by simp⟩⟩
  case round =>
    revert wr
    intro W1 hrel
    obtain ⟨j, A', n', c', o, hj, hnj, rfl, rfl, hO, hG⟩ := hrel
    by_cases hlt : j < n
    · have hE := SL.keep h1.out hO.bel
      have hol := hO.len
      replace hO := Lib.hid hO; replace hG := Lib.hid hG; replace hE := Lib.hid hE
      go_wp2_with (fail)
      go_loopw [5] (fun i wr => ∃ k : Nat, k ≤ n' ∧ i = .int .i64 k ∧ (∀ x, l[j]? = some x → ∀ v ∈ o.take k, v < x.1) ∧ Below W1.heap.size W1 wr) (fun i _ => n' - (intOf i).toNat)
      case atStart => exact ⟨0, by omega, rfl, by simp, Below.refl _ _⟩
      case round =>
        obtain ⟨k, hk, rfl, hlo, hb⟩ := hrel
        have hE2 := SL.keep hE.out hb
        have hO2 := hO.out.keep hb
        obtain ⟨ba, oa, ⟨y0, y1, y2⟩, rfl, hbla, hy, e0, e1, e2⟩ := ES.at_ hE2 hlt
        have hlo := hlo _ hy
        simp only at e0 e1 e2 hlo
        have j0 : (0 : Int) ≤ j := by omega
        have j1 : (j : Int) < n := by omega
        have k0 : (0 : Int) ≤ k := by omega
        by_cases hkn : k < n'
        · obtain ⟨bo, oo, v, rfl, hblo, hv, g0⟩ := hO2.sl.cellI hkn
          have k1 : (k : Int) < n' := by omega
          by_cases hvy : v < y0
          · have hvd : decide (v < y0) = true := by simp [hvy]
            have hlo2 : ∀ x, l[j]? = some x → ∀ u ∈ o.take (k + 1), u < x.1 := fun x hx u hu => by
              rw [hy] at hx
              injection hx with hx
              subst hx
              rw [List.take_add_one, hv] at hu
              simp only [Option.toList, List.mem_append, List.mem_singleton] at hu
              rcases hu with hu | rfl
              · exact hlo u hu
              · exact hvy
            replace hlo2 := Lib.hid hlo2; replace hE2 := Lib.hid hE2; replace hO2 := Lib.hid hO2; replace hb := Lib.hid hb; replace hlo := Lib.hid hlo; replace hy := Lib.hid hy; replace hv := Lib.hid hv
            go_wp2_with (fail)
            go_quiet (fail)
            go_wp2_with (fail)
            exact ⟨⟨k + 1, by omega, by go_num, hlo2.out, below_drewN hb.out _⟩, by simp [intOf]; omega⟩
          · have hvd : decide (v < y0) = false := by simp; omega
            have hvn : ¬ v < y0 := hvy
            have hput : PutAt o k y0 := ⟨hlo, by omega, fun u hu => by rw [hv] at hu; injection hu with hu; omega⟩
            have hmoreG := Lib.hid (hG.out.more hy hput)
            have kn1 : ((k : Int) == (n' : Int)) = false := beq_false_of_ne (by omega)
            by_cases hve : v = y0
            · subst hve
              have hke : insI o k v = o := by unfold insI; rw [if_pos hv]
              simp only at hmoreG
              rw [hke] at hmoreG
              replace hE2 := Lib.hid hE2; replace hO2 := Lib.hid hO2; replace hb := Lib.hid hb; replace hlo := Lib.hid hlo; replace hy := Lib.hid hy; replace hv := Lib.hid hv; replace hput := Lib.hid hput; replace hke := Lib.hid hke
              go_wp2_with (fail)
              go_quiet (fail)
              go_wp2_with (fail)
              have kq1 := below_drewN (Below.refl wr.heap.size wr) nq
              have e0' := (kq1.cell (p := ⟨ba, oa + j * 3, none⟩) hbla).trans e0
              have g0' := (kq1.cell (p := ⟨bo, oo + k, none⟩) hblo).trans g0
              have hO3 := hO2.out.keep kq1
              generalize wr.drewN nq = V1 at *
              replace kq1 := Lib.hid kq1; replace hO3 := Lib.hid hO3
              go_quiet (fail)
              go_wp2_with (fail)
              exact ⟨⟨j + 1, some ⟨bo, oo, none⟩, n', c', o, by omega, by omega, by go_num, rfl, hO3.out.keep (below_drewN (Below.refl _ _) _), hmoreG.out⟩, by simp [intOf]; omega⟩
            · have hve2 : (v == y0) = false := beq_false_of_ne hve
              have hne := Lib.hid (show ¬ o[k]? = some y0 from fun e => by rw [hv] at e; injection e with e; exact hve e)
              replace hE2 := Lib.hid hE2; replace hO2 := Lib.hid hO2; replace hb := Lib.hid hb; replace hlo := Lib.hid hlo; replace hy := Lib.hid hy; replace hv := Lib.hid hv; replace hput := Lib.hid hput
              go_wp2_with (fail)
              go_quiet (fail)
              go_wp2_with (fail)
              have kq1 := below_drewN (Below.refl wr.heap.size wr) nq
              have e0' := (kq1.cell (p := ⟨ba, oa + j * 3, none⟩) hbla).trans e0
              have g0' := (kq1.cell (p := ⟨bo, oo + k, none⟩) hblo).trans g0
              have hO3 := hO2.out.keep kq1
              have hE3 := SL.keep hE2.out kq1
              generalize wr.drewN nq = V1 at *
              have hbla1 := Nat.lt_of_lt_of_le hbla kq1.size
              have hblo1 := Nat.lt_of_lt_of_le hblo kq1.size
              replace kq1 := Lib.hid kq1; replace hO3 := Lib.hid hO3; replace hE3 := Lib.hid hE3
              go_quiet (fail)
              have kq2 := below_drewN (Below.refl V1.heap.size V1) nq
              have e0'' := (kq2.cell (p := ⟨ba, oa + j * 3, none⟩) hbla1).trans e0'
              have hO4 := hO3.out.keep kq2
              generalize V1.drewN nq = V2 at *
              have hbla2 := Nat.lt_of_lt_of_le hbla1 kq2.size
              have hcap := hO4.cap
              obtain ⟨X, hXs, hX⟩ := SL.low (m := k) hO4.sl hk hcap
              obtain ⟨A9, c9, W9, hrun9, o9⟩ := copyI (c := c') hX (by omega)
              have e9 := (o9.bel.cell (p := ⟨ba, oa + j * 3, none⟩) hbla2).trans e0''
              obtain ⟨A10, c10, W10, hrun10, o10⟩ := o9.push (by omega) y0 1
              obtain ⟨Y, dy, hYs, hY⟩ := SL.high (m := k) (SL.keep hO4.sl o10.bel) hk hcap
              obtain ⟨A11, c11, W11, hrun11, o11⟩ := catI (d := dy) o10 hY (by omega) (by omega)
              have hfin := o11.re hO4.bel
              have hins : o.take k ++ [y0] ++ o.drop k = insI o k y0 := by unfold insI; rw [if_neg hne.out]
              rw [hins] at hfin
              have hkc : k ≤ c' := by omega
              have hkcI : (k : Int) ≤ c' := by omega
              have hknI : (k : Int) ≤ n' := by omega
              replace hfin := Lib.hid hfin; replace o9 := Lib.hid o9; replace o10 := Lib.hid o10; replace o11 := Lib.hid o11; replace hO4 := Lib.hid hO4; replace kq2 := Lib.hid kq2; replace hins := Lib.hid hins
              clear hX hY
              go_wp2_with (fail)
              exact ⟨⟨j + 1, A11, _, c11, insI o k y0, by omega, by omega, by go_num, rfl, hfin.out, hmoreG.out⟩, by simp [intOf]; omega⟩
        · have hkn' : k = n' := by omega
          have hput : PutAt o k y0 := ⟨hlo, by omega, fun u hu => by have := (List.getElem?_eq_some_iff.1 hu).1; omega⟩
          have hmoreG := Lib.hid (hG.out.more hy hput)
          have kn0 : ¬ (k : Int) < n' := by omega
          have kn1 : ((k : Int) == (n' : Int)) = true := by simp [hkn']
          have hne := Lib.hid (show ¬ o[k]? = some y0 from fun e => by have := (List.getElem?_eq_some_iff.1 e).1; omega)
          replace hkn' := Lib.hid hkn'
          replace hE2 := Lib.hid hE2; replace hO2 := Lib.hid hO2; replace hb := Lib.hid hb; replace hlo := Lib.hid hlo; replace hy := Lib.hid hy; replace hput := Lib.hid hput
          go_wp2_with (fail)
          go_quiet (fail)
          go_wp2_with (fail)
          have kq1 := below_drewN (Below.refl wr.heap.size wr) nq
          have e0' := (kq1.cell (p := ⟨ba, oa + j * 3, none⟩) hbla).trans e0
          have hO3 := hO2.out.keep kq1
          have hE3 := SL.keep hE2.out kq1
          generalize wr.drewN nq = V1 at *
          have hbla1 := Nat.lt_of_lt_of_le hbla kq1.size
          replace kq1 := Lib.hid kq1; replace hO3 := Lib.hid hO3; replace hE3 := Lib.hid hE3
          go_quiet (fail)
          have kq2 := below_drewN (Below.refl V1.heap.size V1) nq
          have e0'' := (kq2.cell (p := ⟨ba, oa + j * 3, none⟩) hbla1).trans e0'
          have hO4 := hO3.out.keep kq2
          generalize V1.drewN nq = V2 at *
          have hbla2 := Nat.lt_of_lt_of_le hbla1 kq2.size
          have hcap := hO4.cap
          obtain ⟨X, hXs, hX⟩ := SL.low (m := k) hO4.sl hk hcap
          obtain ⟨A9, c9, W9, hrun9, o9⟩ := copyI (c := c') hX (by omega)
          have e9 := (o9.bel.cell (p := ⟨ba, oa + j * 3, none⟩) hbla2).trans e0''
          obtain ⟨A10, c10, W10, hrun10, o10⟩ := o9.push (by omega) y0 1
          obtain ⟨Y, dy, hYs, hY⟩ := SL.high (m := k) (SL.keep hO4.sl o10.bel) hk hcap
          obtain ⟨A11, c11, W11, hrun11, o11⟩ := catI (d := dy) o10 hY (by omega) (by omega)
          have hfin := o11.re hO4.bel
          have hins : o.take k ++ [y0] ++ o.drop k = insI o k y0 := by unfold insI; rw [if_neg hne.out]
          rw [hins] at hfin
          have hkc : k ≤ c' := by omega
          have hkcI : (k : Int) ≤ c' := by omega
          have hknI : (k : Int) ≤ n' := by omega
          replace hfin := Lib.hid hfin; replace o9 := Lib.hid o9; replace o10 := Lib.hid o10; replace o11 := Lib.hid o11; replace hO4 := Lib.hid hO4; replace kq2 := Lib.hid kq2; replace hins := Lib.hid hins
          clear hX hY
          go_wp2_with (fail)
          exact ⟨⟨j + 1, A11, _, c11, insI o k y0, by omega, by omega, by go_num, rfl, hfin.out, hmoreG.out⟩, by simp [intOf]; omega⟩
    · obtain rfl : j = n := by omega
      have hG2 : SagsOf l o := by rw [List.take_of_length_le (by omega)] at hG; exact hG
      replace hO := Lib.hid hO; replace hG := Lib.hid hG; replace hG2 := Lib.hid hG2
      go_wp2_with (fail)
      go_ret
      exact ⟨A', n', c', o, rfl, hnj, hO.out, hG2.out⟩
end Go.Proofs.Ythmkfbabacehnaa
