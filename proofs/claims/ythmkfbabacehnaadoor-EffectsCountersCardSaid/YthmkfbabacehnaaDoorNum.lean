/- Numbers and sums: the program's (two words of 64 bits) and the document's (an upper and a lower part). -/
import Derived.Test.YthmkfbabacehnaaDoorNumP
import Derived.Test.YthmkfbabacehnaaDoorSl
import Derived.Test.YthmkfbabacehnaaDoorShelf
namespace Go.Proofs.YthmkfbabacehnaaDoor
open Go.RowKit Go.Shelf
set_option linter.unusedSimpArgs false
set_option linter.unusedVariables false
set_option linter.unusedSectionVars false
set_option maxRecDepth 10000
def encN (x : Int) : List Value := [.int .i64 x]
theorem encN_len (x : Int) : (encN x).length = 1 := rfl
theorem encN_one (x : Int) : ∀ u ∈ encN x, u.oneCell' = true := by intro u hu; simp [encN] at hu; subst hu; rfl
theorem elemN : Elem Tryd.prog 52 2 1 8 := elem_of (z := .int .i64 0) Tryd.underlying52 (by kernel_rfl) rfl (by omega)
/-- A slice reads as numbers. -/
def NS (w : World) (A : Option Addr) (n : Nat) (l : List Int) : Prop := SL encN 1 w A n l
theorem NS.at_ {w : World} {A : Option Addr} {n : Nat} {l : List Int} (h : NS w A n l) {i : Nat} (hi : i < n) : ∃ b o x, A = some ⟨b, o, none⟩ ∧ b < w.heap.size ∧ l[i]? = some x ∧ w.cell? ⟨b, o + i, none⟩ = some (.int .i64 x) := by
  obtain ⟨b, o, x, e, hl, hx, hc⟩ := SL.at_ h hi
  have h0 := hc 0 _ rfl
  rw [Nat.mul_one, Nat.add_zero] at h0
  exact ⟨b, o, x, e, hl, hx, h0⟩
def okVC (x : Int) : Int := if okV x then 0 else 7
theorem okVC_ok {x : Int} (h : okV x = true) : okVC x = 0 := by unfold okVC; rw [if_pos h]
theorem okVC_bad {x : Int} (h : ¬ okV x = true) : okVC x = 7 := by unfold okVC; rw [if_neg h]
theorem checkN_any (a : Int) (w : World) : Calls Tryd.prog 34 #[.int .i64 a] w fun e w' => e = .returned (.int .i64 (okVC a)) ∧ w' = w := by
  go_enter Tryd.func34, Tryd.ntmps34
  go_wp2
  all_goals
    go_ret
    refine ⟨ret_int ?_, rfl⟩
    first | exact (okVC_ok ((okV_iff _).2 (by omega))).symm | exact (okVC_bad (fun q => by rw [okV_iff] at q; omega)).symm
theorem rcheckN_any (a : Int) (w : World) : Calls Tryd.prog 38 #[.int .i64 a] w fun e w' => e = .returned (.int .i64 (okVC a)) ∧ w' = w := by
  go_enter Tryd.func38, Tryd.ntmps38
  go_wp2
  all_goals
    go_ret
    refine ⟨ret_int ?_, rfl⟩
    first | exact (okVC_ok ((okV_iff _).2 (by omega))).symm | exact (okVC_bad (fun q => by rw [okV_iff] at q; omega)).symm
theorem add64_0 (x y : Nat) (w : World) : (callFunc 52 #[.int .u64 x, .int .u64 y, .int .u64 0]).run Tryd.prog w = .ok (.value (.tuple #[.int .u64 ((x + y + 0) % 18446744073709551616 : Nat), .int .u64 ((x + y + 0) / 18446744073709551616 : Nat)])) w := Tryd.bits_Add64 x y 0 (by omega) w
theorem addN_any (lo hi : Nat) (x : Int) (hlo : lo < 18446744073709551616) (hhi : hi < 18446744073709551616) (hx : okV x = true) (w : World) :
    Calls Tryd.prog 35 #[.agg #[.int .u64 lo, .int .u64 hi], .int .i64 x] w fun e w' => ∃ lo' hi' : Nat, e = .returned (.agg #[.int .u64 lo', .int .u64 hi']) ∧ Below w.heap.size w w' ∧ ∀ S, Two64 lo hi S → Two64 lo' hi' (S + x) := by
  have hx' := (okV_iff x).1 hx
  obtain ⟨u, hu⟩ : ∃ u : Nat, (u : Int) = x % 18446744073709551616 := ⟨(x % 18446744073709551616).toNat, by omega⟩
  obtain ⟨v, hv⟩ : ∃ v : Nat, (v : Int) = if x < 0 then 18446744073709551615 else 0 := by
    by_cases h : x < 0
    · exact ⟨18446744073709551615, by rw [if_pos h]; rfl⟩
    · exact ⟨0, by rw [if_neg h]; rfl⟩
  have h1 := fun W => add64_0 lo u W
  have hcar : (lo + u + 0) / 18446744073709551616 ≤ 1 := by omega
  have h2 := fun W => Tryd.bits_Add64 hi v ((lo + u + 0) / 18446744073709551616) hcar W
  have hfin := Lib.hid (fun S (q : Two64 lo hi S) => two_add q hx hu hv)
  obtain ⟨y, hy⟩ : ∃ y : Int, y = x / 9223372036854775808 := ⟨_, rfl⟩
  have e2 : x / 9223372036854775808 = y := hy.symm
  have e1 : IntKind.wrap .u64 x = (u : Int) := by simp [IntKind.wrap, IntKind.signed, IntKind.bits]; omega
  have e3 : IntKind.wrap .u64 y = (v : Int) := by simp [IntKind.wrap, IntKind.signed, IntKind.bits]; split at hv <;> omega
  replace hy := Lib.hid hy
  generalize (lo + u + 0) % 18446744073709551616 = lo' at *
  generalize (lo + u + 0) / 18446744073709551616 = ca at *
  generalize (hi + v + ca) % 18446744073709551616 = hi' at *
  replace hu := Lib.hid hu; replace hv := Lib.hid hv
  go_enter Tryd.func35, Tryd.ntmps35
  go_wp2
  simp [bodyPost, results, Tryd.results35, go_sem]
  refine ⟨lo', hi', ⟨rfl, rfl⟩, ?_, hfin.out⟩
  exact ((Below.refl _ _).alloc (Nat.le_refl _) _).alloc (by simp) _
theorem sumC_many {l : List Int} (h : 10000 < l.length) : sumC l = (0, 12) := by unfold sumC; rw [if_pos h]
theorem sumC_bad {l : List Int} (hl : l.length ≤ 10000) {j : Nat} {x : Int} (h : l[j]? = some x) (hb : ¬ okV x = true) : sumC l = (0, 7) := by
  unfold sumC
  rw [if_neg (show ¬ 10000 < l.length by omega), if_neg (all_bad h hb)]
theorem sumC_fine {l : List Int} (hl : l.length ≤ 10000) (h : l.all okV = true) : sumC l = if okV l.sum then (l.sum, 0) else (0, 7) := by
  unfold sumC
  rw [if_neg (show ¬ 10000 < l.length by omega), if_pos h]
set_option maxHeartbeats 4000000 in
theorem sumN_any (A : Option Addr) (n c : Nat) (l : List Int) (w : World) (h : NS w A n l) :
    Calls Tryd.prog 19 #[.slice A n c] w fun e w' => e = .returned (.tuple #[.int .i64 (sumC l).1, .int .i64 (sumC l).2]) ∧ Below w.heap.size w w' := by
  have hl := h.1
  by_cases hm : 10000 < n
  · rw [sumC_many (by omega)]
    have hmi : (10000 : Int) < n := by omega
    clear h hl
    go_enter Tryd.func19, Tryd.ntmps19
    go_wp2
    refine bodyPost_ret (results_tmp2 rfl _ _ _) rfl ?_
    exact ⟨rfl, Below.refl _ _⟩
  have hmi : ¬ (10000 : Int) < n := by omega
  replace h := Lib.hid h; replace hl := Lib.hid hl
  go_enter Tryd.func19, Tryd.ntmps19
  go_wp2_with (fail)
  go_loopw [7, 14] (fun _ i wr => ∃ (k : Nat) (lo hi : Nat), k ≤ n ∧ i = .int .i64 k ∧ (l.take k).all okV = true ∧ Two64 lo hi (l.take k).sum ∧ Below w.heap.size w wr ∧ w.heap.size < wr.heap.size ∧ wr.cell? ⟨w.heap.size, 0, none⟩ = some (.int .u64 lo) ∧ wr.cell? ⟨w.heap.size, 1, none⟩ = some (.int .u64 hi) ∧ wr.heap[w.heap.size]? = some (.cells #[.int .u64 lo, .int .u64 hi] 73 (0, 0))) (fun _ i _ => n - (intOf i).toNat)
  case atStart => exact ⟨0, 0, 0, by omega, rfl, by simp, by simpa using two_nil, (Below.refl _ _).alloc (Nat.le_refl _) _, by simp, by simp [World.cell?_alloc_new], by simp [World.cell?_alloc_new], hpNew w _⟩
  case round =>
    revert wr
    intro W1 hrel
    obtain ⟨k, lo, hi, hk, rfl, hall, htwo, hb, hlt1, c0, c1, hh⟩ := hrel
    by_cases hlt : k < n
    · obtain ⟨b, o, x, rfl, hbl, hx, hc⟩ := h.out.at_ hlt
      have hc1 := (hb.cell (p := ⟨b, o + k, none⟩) hbl).trans hc
      have j0 : (0 : Int) ≤ k := by omega
      have j1 : (k : Int) < n := by omega
      have hs := sum_take hx
      have ha := okV_take hx
      rw [hall, Bool.true_and] at ha
      by_cases hv : okV x = true
      · have hC := checkN_any x W1
        rw [okVC_ok hv] at hC
        rw [hv] at ha
        have hA := addN_any lo hi x htwo.1 htwo.2.1 hv W1
        replace ha := Lib.hid ha; replace hs := Lib.hid hs; replace htwo := Lib.hid htwo; replace hall := Lib.hid hall; replace hx := Lib.hid hx; replace hb := Lib.hid hb; replace hc := Lib.hid hc; replace hh := Lib.hid hh; replace hv := Lib.hid hv
        go_wp2_with (fail)
        refine hC.mono ?_
        rintro e w2 ⟨rfl, rfl⟩
        go_wp2_with (fail)
        refine hA.mono ?_
        rintro e w3 ⟨lo', hi', rfl, b3, htwo'⟩
        have hh3 := (b3.block w.heap.size hlt1).trans hh.out
        have hlt3 := Nat.lt_of_lt_of_le hlt1 b3.size
        have hb3 := hb.out.trans (b3.mono hb.out.size)
        have htwo3 := htwo' _ htwo.out
        rw [← hs.out] at htwo3
        replace htwo3 := Lib.hid htwo3; replace hb3 := Lib.hid hb3
        have g0 : w3.cell? ⟨w.heap.size, 0, none⟩ = some (.int .u64 lo) := by simp [World.cell?, hh3]
        have g1 : w3.cell? ⟨w.heap.size, 1, none⟩ = some (.int .u64 hi) := by simp [World.cell?, hh3]
        have f0 : w3.frozen? ⟨w.heap.size, 0, none⟩ = false := by simp [World.frozen?, hh3]
        have f1 : w3.frozen? ⟨w.heap.size, 1, none⟩ = false := by simp [World.frozen?, hh3]
        replace hh3 := Lib.hid hh3
        clear htwo' hA hC b3
        go_wp2_with (fail)
        have hset : ((w3.setCell ⟨w.heap.size, 0, none⟩ (.int .u64 lo')).setCell ⟨w.heap.size, 1, none⟩ (.int .u64 hi')).heap[w.heap.size]? = some (.cells #[.int .u64 lo', .int .u64 hi'] 73 (0, 0)) := by
          have := hpSet (i := 1) (v := .int .u64 hi') (hpSet (i := 0) (v := .int .u64 lo') hh3.out)
          simpa using this
        refine ⟨⟨k + 1, lo', hi', by omega, by go_num, ha.out, htwo3.out, (hb3.out.setCell (Nat.le_refl _) _).setCell (Nat.le_refl _) _, by simp; exact hlt3, ?_, ?_, hset⟩, by simp [intOf]; omega⟩
        · rw [blkC hset]; rfl
        · rw [blkC hset]; rfl
      · have hC := checkN_any x W1
        rw [okVC_bad hv] at hC
        have hfin := Lib.hid (sumC_bad (by have := hl.out; omega) hx hv)
        replace ha := Lib.hid ha; replace hs := Lib.hid hs; replace htwo := Lib.hid htwo; replace hall := Lib.hid hall; replace hx := Lib.hid hx; replace hb := Lib.hid hb; replace hc := Lib.hid hc; replace hh := Lib.hid hh; replace hv := Lib.hid hv
        go_wp2_with (fail)
        refine hC.mono ?_
        rintro e w2 ⟨rfl, rfl⟩
        go_wp2_with (fail)
        refine bodyPost_ret (results_tmp2 rfl _ _ _) rfl ?_
        exact ⟨by rw [hfin.out]; rfl, hb.out⟩
    · obtain rfl : k = n := by omega
      have hl' := hl.out
      rw [List.take_of_length_le (by omega)] at hall htwo
      have hbd := sum_bound l hall
      have hfine := sumC_fine (by omega) hall
      have hend := two_end htwo (by omega)
      obtain ⟨h64, h64b, _⟩ := htwo
      rcases Nat.lt_or_ge lo 9223372036854775808 with hlo | hlo
      · obtain ⟨i1, i2⟩ := hend.1 hlo
        have w1 : IntKind.wrap .i64 (lo : Int) = (lo : Int) := by simp [IntKind.wrap, IntKind.signed, IntKind.bits]; omega
        have w2 : (lo : Int) / 9223372036854775808 = 0 := by omega
        have w3 : IntKind.wrap .u64 0 = 0 := by decide
        by_cases h0 : hi = 0
        · have hS := i2 h0
          have hz : ((hi : Int) != 0) = false := by simp [h0]
          have hC := checkN_any (lo : Int) W1
          rw [hS] at hfine
          replace hS := Lib.hid hS; replace h0 := Lib.hid h0; replace hb := Lib.hid hb; replace hh := Lib.hid hh; replace hall := Lib.hid hall; replace hl := Lib.hid hl'
          clear hl' i1 i2 hend hbd
          by_cases hv : okV (lo : Int) = true
          · rw [okVC_ok hv] at hC
            rw [if_pos hv] at hfine
            replace hfine := Lib.hid hfine
            clear hv
            go_wp2_with (fail)
            refine hC.mono ?_
            rintro e w2 ⟨rfl, rfl⟩
            go_wp2_with (fail)
            refine bodyPost_ret (results_tmp2 rfl _ _ _) rfl ?_
            exact ⟨by rw [hfine.out]; rfl, hb.out⟩
          · rw [okVC_bad hv] at hC
            rw [if_neg hv] at hfine
            replace hfine := Lib.hid hfine
            clear hv
            go_wp2_with (fail)
            refine hC.mono ?_
            rintro e w2 ⟨rfl, rfl⟩
            go_wp2_with (fail)
            refine bodyPost_ret (results_tmp2 rfl _ _ _) rfl ?_
            exact ⟨by rw [hfine.out]; rfl, hb.out⟩
        · have hz : ((hi : Int) != 0) = true := by simp [h0]
          have hv : ¬ okV l.sum = true := fun q => h0 (i1.2 (by have := (okV_iff _).1 q; omega))
          rw [if_neg hv] at hfine
          replace hfine := Lib.hid hfine; replace hb := Lib.hid hb; replace hh := Lib.hid hh; replace hall := Lib.hid hall; replace hl := Lib.hid hl'
          clear hl' i1 i2 hend hbd hv h0
          go_wp2_with (fail)
          refine bodyPost_ret (results_tmp2 rfl _ _ _) rfl ?_
          exact ⟨by rw [hfine.out]; rfl, hb.out⟩
      · obtain ⟨i1, i2⟩ := hend.2 hlo
        have w1 : IntKind.wrap .i64 (lo : Int) = (lo : Int) - 18446744073709551616 := by simp [IntKind.wrap, IntKind.signed, IntKind.bits]; omega
        have w2 : ((lo : Int) - 18446744073709551616) / 9223372036854775808 = -1 := by omega
        have w3 : IntKind.wrap .u64 (-1) = 18446744073709551615 := by decide
        by_cases h0 : hi = 18446744073709551615
        · have hS := i2 h0
          have hz : ((hi : Int) != 18446744073709551615) = false := by simp [h0]
          rw [hS] at hfine
          replace hS := Lib.hid hS; replace h0 := Lib.hid h0; replace hb := Lib.hid hb; replace hh := Lib.hid hh; replace hall := Lib.hid hall; replace hl := Lib.hid hl'
          clear hl' i1 i2 hend hbd
          generalize (lo : Int) - 18446744073709551616 = z at *
          have hC := checkN_any z W1
          by_cases hv : okV z = true
          · rw [okVC_ok hv] at hC
            rw [if_pos hv] at hfine
            replace hfine := Lib.hid hfine
            clear hv
            go_wp2_with (fail)
            refine hC.mono ?_
            rintro e w2 ⟨rfl, rfl⟩
            go_wp2_with (fail)
            refine bodyPost_ret (results_tmp2 rfl _ _ _) rfl ?_
            exact ⟨by rw [hfine.out]; rfl, hb.out⟩
          · rw [okVC_bad hv] at hC
            rw [if_neg hv] at hfine
            replace hfine := Lib.hid hfine
            clear hv
            go_wp2_with (fail)
            refine hC.mono ?_
            rintro e w2 ⟨rfl, rfl⟩
            go_wp2_with (fail)
            refine bodyPost_ret (results_tmp2 rfl _ _ _) rfl ?_
            exact ⟨by rw [hfine.out]; rfl, hb.out⟩
        · have hz : ((hi : Int) != 18446744073709551615) = true := by simp; omega
          have hv : ¬ okV l.sum = true := fun q => h0 (i1.2 (by have := (okV_iff _).1 q; omega))
          rw [if_neg hv] at hfine
          replace hfine := Lib.hid hfine; replace hb := Lib.hid hb; replace hh := Lib.hid hh; replace hall := Lib.hid hall; replace hl := Lib.hid hl'
          clear hl' i1 i2 hend hbd hv h0
          go_wp2_with (fail)
          refine bodyPost_ret (results_tmp2 rfl _ _ _) rfl ?_
          exact ⟨by rw [hfine.out]; rfl, hb.out⟩
end Go.Proofs.YthmkfbabacehnaaDoor
