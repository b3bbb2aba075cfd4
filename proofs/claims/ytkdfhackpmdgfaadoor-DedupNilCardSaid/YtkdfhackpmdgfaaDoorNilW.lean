/- The walk of DedupNil. -/
import Derived.Test.YtkdfhackpmdgfaaDoorNilT
namespace Go.Proofs.YtkdfhackpmdgfaaDoor
open Go.RowKit Go.Shelf
set_option linter.unusedSimpArgs false
set_option linter.unusedVariables false
set_option linter.unusedSectionVars false
set_option maxRecDepth 10000
def nX : En := ⟨(3, 2, 1), ⟨#[97]⟩, (0, 0, noText)⟩
def nY : En := ⟨(1, 0, 1), ⟨#[98]⟩, (0, 0, noText)⟩
theorem n_a : putC 5 [] nX = 0 := by decide +kernel
theorem n_b : putC 5 [nX] nY = 0 := by decide +kernel
theorem n_l : ((putL 5 [nX] nY).length : Int) = 2 := by decide +kernel
set_option maxHeartbeats 32000000 in
theorem nil_walk (y : Ef) (key : ByteArray) (w : World) : Calls Tryd.prog 5 #[.agg #[.int .i64 y.1, .int .i64 y.2.1, .int .i64 y.2.2], .string key] w fun e w' => e = .returned (.bool true) ∧ Below w.heap.size w w' := by
  have kb := (Below.refl w.heap.size w).alloc (Nat.le_refl _) (.cells #[.int .i64 y.1, .int .i64 y.2.1, .int .i64 y.2.2] 23)
  have hx := hpNew w (.cells #[.int .i64 y.1, .int .i64 y.2.1, .int .i64 y.2.2] 23)
  obtain ⟨W0, hW0⟩ : ∃ W0, W0 = w.alloc (.cells #[.int .i64 y.1, .int .i64 y.2.1, .int .i64 y.2.2] 23) := ⟨_, rfl⟩
  rw [← hW0] at kb hx
  have hxl := blkX hx
  by_cases hlen : 100 < key.size
  · have hi : (100 : Int) < key.size := by omega
    replace kb := Lib.hid kb; replace hx := Lib.hid hx
    go_enter Tryd.func5, Tryd.ntmps5
    go_wp2_with (fail)
    rw [← hW0]
    refine (works_any _).mono ?_
    rintro e w2 ⟨rfl, b2⟩
    have k2 := Lib.hid (kb.out.trans (b2.mono kb.out.size))
    clear b2
    go_wp2_with (fail)
    go_ret
    exact ⟨rfl, k2.out⟩
  · have hi : ¬ (100 : Int) < key.size := by omega
    replace kb := Lib.hid kb; replace hx := Lib.hid hx
    go_enter Tryd.func5, Tryd.ntmps5
    go_wp2_with (fail)
    obtain ⟨W1, hW1, k1, hx1, hz1, hr1⟩ : ∃ W1, W1 = (W0.alloc (.cells #[.bool false, .int .i64 0, .slice none 0 0] 52)).alloc (.cells #[.pointer none, .pointer (some ⟨W0.heap.size, 0, none⟩)] 27) ∧ Below w.heap.size w W1 ∧ W1.heap[w.heap.size]? = some (.cells #[.int .i64 y.1, .int .i64 y.2.1, .int .i64 y.2.2] 23 (0, 0)) ∧ W1.heap[W0.heap.size]? = some (.cells #[.bool false, .int .i64 0, .slice none 0 0] 52 (0, 0)) ∧ W1.heap[W0.heap.size + 1]? = some (.cells #[.pointer none, .pointer (some ⟨W0.heap.size, 0, none⟩)] 27 (0, 0)) := by
      refine ⟨_, rfl, (kb.out.alloc kb.out.size _).alloc (by have := kb.out.size; simp; omega) _, ?_, ?_, ?_⟩
      · rw [hpOld _ (by simp; omega), hpOld _ (by omega)]; exact hx.out
      · rw [hpOld _ (by simp)]; exact hpNew W0 _
      · have := hpNew (W0.alloc (.cells #[.bool false, .int .i64 0, .slice none 0 0] 52)) (.cells #[.pointer none, .pointer (some ⟨W0.heap.size, 0, none⟩)] 27)
        rwa [show (W0.alloc (.cells #[.bool false, .int .i64 0, .slice none 0 0] 52)).heap.size = W0.heap.size + 1 from by simp] at this
    have hsz0 : W0.heap.size = w.heap.size + 1 := by rw [hW0]; simp
    rw [hsz0] at hr1 hz1 hW1
    rw [hW0] at hW1
    rw [← hW1]
    replace hW1 := Lib.hid hW1; replace hW0 := Lib.hid hW0; replace k1 := Lib.hid k1; replace hx1 := Lib.hid hx1; replace hz1 := Lib.hid hz1; replace hr1 := Lib.hid hr1; replace hsz0 := Lib.hid hsz0
    clear kb hx hxl
    go_loopw [28] (fun i wr => ∃ k : Nat, k ≤ 2 ∧ i = .int .i64 k ∧ Below W1.heap.size W1 wr) (fun i _ => 2 - (intOf i).toNat)
    case atStart => exact ⟨0, by omega, rfl, Below.refl _ _⟩
    case round =>
      revert wr
      intro w2 hrel
      obtain ⟨k, hk, rfl, hb⟩ := hrel
      by_cases hlt : k < 2
      · obtain ⟨v, hv, hN⟩ : ∃ v, w2.cell? ⟨w.heap.size + 2, k, none⟩ = some v ∧ NoT v w2 := by
          have hq := blkC ((hb.block _ (blkX hr1.out)).trans hr1.out)
          have hz := (hb.block _ (blkX hz1.out)).trans hz1.out
          rcases (by omega : k = 0 ∨ k = 1) with rfl | rfl
          · exact ⟨_, hq 0, .inl rfl⟩
          · exact ⟨_, hq 1, .inr ⟨_, rfl, hz⟩⟩
        have j0 : (0 : Int) ≤ k := by omega
        have j1 : (k : Int) < 2 := by omega
        have hg := noGet y hN
        have hq := (hb.block _ (blkX hx1.out)).trans hx1.out
        have x0 := blkC hq 0; have x1 := blkC hq 1; have x2 := blkC hq 2
        simp only [List.getElem?_toArray, List.getElem?_cons_zero, List.getElem?_cons_succ] at x0 x1 x2
        clear hq
        replace hb := Lib.hid hb; replace hN := Lib.hid hN
        go_wp2_with (fail)
        refine hg.mono ?_
        rintro e w3 ⟨rfl, b3⟩
        have hb3 := hb.out.trans (b3.mono hb.out.size)
        have N3 := hN.out.below b3
        clear hg x0 x1 x2 hv
        have hq := (hb3.block _ (blkX hx1.out)).trans hx1.out
        have x0 := blkC hq 0; have x1 := blkC hq 1; have x2 := blkC hq 2
        simp only [List.getElem?_toArray, List.getElem?_cons_zero, List.getElem?_cons_succ] at x0 x1 x2
        clear hq
        have kb3 := (Below.refl w3.heap.size w3).alloc (Nat.le_refl _) (.cells #[.int .i64 0, .int .i64 0, .string ⟨#[]⟩] 43)
        have hp := hpNew w3 (.cells #[.int .i64 0, .int .i64 0, .string ⟨#[]⟩] 43)
        obtain ⟨V, hV⟩ : ∃ V, V = w3.alloc (.cells #[.int .i64 0, .int .i64 0, .string ⟨#[]⟩] 43) := ⟨_, rfl⟩
        have hgl : w.heap.size < w3.heap.size := by have := (blkX hx1.out); have := hb3.size; omega
        rw [← hV] at kb3 hp
        have hpl := blkX hp
        have hb4 := hb3.trans (kb3.mono hb3.size)
        have N4 := N3.below kb3
        have hk4 := noKey y N4
        replace hb3 := Lib.hid hb3; replace N3 := Lib.hid N3; replace N4 := Lib.hid N4; replace hb4 := Lib.hid hb4; replace hp := Lib.hid hp; replace kb3 := Lib.hid kb3
        clear b3
        go_wp2_with (fail)
        rw [← hV]
        replace hV := Lib.hid hV
        clear x0 x1 x2
        obtain ⟨R, hR⟩ : ∃ R, R = w3.heap.size := ⟨_, rfl⟩
        rw [← hR] at hpl hp ⊢
        replace hR := Lib.hid hR
        refine (hk4).mono ?_
        rintro e w5 ⟨rfl, b5⟩
        have hb5 := hb4.out.trans (b5.mono hb4.out.size)
        have N5 := N4.out.below b5
        have hp5 := (b5.block _ (blkX hp.out)).trans hp.out
        have hq := (hb5.block _ (blkX hx1.out)).trans hx1.out
        have x0 := blkC hq 0; have x1 := blkC hq 1; have x2 := blkC hq 2
        simp only [List.getElem?_toArray, List.getElem?_cons_zero, List.getElem?_cons_succ] at x0 x1 x2
        clear hq
        have p0 := blkC hp5 0; have p1 := blkC hp5 1; have p2 := blkC hp5 2
        simp only [List.getElem?_toArray, List.getElem?_cons_zero, List.getElem?_cons_succ] at p0 p1 p2
        replace hb5 := Lib.hid hb5; replace N5 := Lib.hid N5; replace hp5 := Lib.hid hp5
        clear b5
        go_wp2_with (fail)
        clear x0 x1 x2 p0 p1 p2
        refine (noTake _ _ N5.out).mono ?_
        rintro e w6 ⟨rfl, b6⟩
        have hb6 := hb5.out.trans (b6.mono hb5.out.size)
        have N6 := N5.out.below b6
        have hp6 := (b6.block _ (blkX hp5.out)).trans hp5.out
        have hq := (hb6.block _ (blkX hx1.out)).trans hx1.out
        have x0 := blkC hq 0; have x1 := blkC hq 1; have x2 := blkC hq 2
        simp only [List.getElem?_toArray, List.getElem?_cons_zero, List.getElem?_cons_succ] at x0 x1 x2
        clear hq
        have p0 := blkC hp6 0; have p1 := blkC hp6 1; have p2 := blkC hp6 2
        simp only [List.getElem?_toArray, List.getElem?_cons_zero, List.getElem?_cons_succ] at p0 p1 p2
        replace hb6 := Lib.hid hb6; replace N6 := Lib.hid N6; replace hp6 := Lib.hid hp6
        clear b6
        go_wp2_with (fail)
        clear x0 x1 x2 p0 p1 p2
        refine (noPut y key (0, 0, ⟨#[]⟩) N6.out).mono ?_
        rintro e w7 ⟨rfl, b7⟩
        have hb7 := hb6.out.trans (b7.mono hb6.out.size)
        have N7 := N6.out.below b7
        have hp7 := (b7.block _ (blkX hp6.out)).trans hp6.out
        have hq := (hb7.block _ (blkX hx1.out)).trans hx1.out
        have x0 := blkC hq 0; have x1 := blkC hq 1; have x2 := blkC hq 2
        simp only [List.getElem?_toArray, List.getElem?_cons_zero, List.getElem?_cons_succ] at x0 x1 x2
        clear hq
        have p0 := blkC hp7 0; have p1 := blkC hp7 1; have p2 := blkC hp7 2
        simp only [List.getElem?_toArray, List.getElem?_cons_zero, List.getElem?_cons_succ] at p0 p1 p2
        replace hb7 := Lib.hid hb7; replace N7 := Lib.hid N7; replace hp7 := Lib.hid hp7
        clear b7
        go_wp2_with (fail)
        clear x0 x1 x2 p0 p1 p2
        refine (noAll N7.out).mono ?_
        rintro e w8 ⟨rfl, b8⟩
        have hb8 := hb7.out.trans (b8.mono hb7.out.size)
        have N8 := N7.out.below b8
        have hp8 := (b8.block _ (blkX hp7.out)).trans hp7.out
        have hq := (hb8.block _ (blkX hx1.out)).trans hx1.out
        have x0 := blkC hq 0; have x1 := blkC hq 1; have x2 := blkC hq 2
        simp only [List.getElem?_toArray, List.getElem?_cons_zero, List.getElem?_cons_succ] at x0 x1 x2
        clear hq
        have p0 := blkC hp8 0; have p1 := blkC hp8 1; have p2 := blkC hp8 2
        simp only [List.getElem?_toArray, List.getElem?_cons_zero, List.getElem?_cons_succ] at p0 p1 p2
        replace hb8 := Lib.hid hb8; replace N8 := Lib.hid N8; replace hp8 := Lib.hid hp8
        clear b8
        go_wp2_with (fail)
        clear x0 x1 x2 p0 p1 p2
        refine (noLen N8.out).mono ?_
        rintro e w9 ⟨rfl, b9⟩
        have hb9 := hb8.out.trans (b9.mono hb8.out.size)
        have N9 := N8.out.below b9
        have hp9 := (b9.block _ (blkX hp8.out)).trans hp8.out
        have hq := (hb9.block _ (blkX hx1.out)).trans hx1.out
        have x0 := blkC hq 0; have x1 := blkC hq 1; have x2 := blkC hq 2
        simp only [List.getElem?_toArray, List.getElem?_cons_zero, List.getElem?_cons_succ] at x0 x1 x2
        clear hq
        have p0 := blkC hp9 0; have p1 := blkC hp9 1; have p2 := blkC hp9 2
        simp only [List.getElem?_toArray, List.getElem?_cons_zero, List.getElem?_cons_succ] at p0 p1 p2
        replace hb9 := Lib.hid hb9; replace N9 := Lib.hid N9; replace hp9 := Lib.hid hp9
        clear b9
        go_wp2_with (fail)
        clear x0 x1 x2 p0 p1 p2
        refine (noRoom N9.out).mono ?_
        rintro e w10 ⟨rfl, b10⟩
        have hb10 := hb9.out.trans (b10.mono hb9.out.size)
        have N10 := N9.out.below b10
        have hp10 := (b10.block _ (blkX hp9.out)).trans hp9.out
        have hq := (hb10.block _ (blkX hx1.out)).trans hx1.out
        have x0 := blkC hq 0; have x1 := blkC hq 1; have x2 := blkC hq 2
        simp only [List.getElem?_toArray, List.getElem?_cons_zero, List.getElem?_cons_succ] at x0 x1 x2
        clear hq
        have p0 := blkC hp10 0; have p1 := blkC hp10 1; have p2 := blkC hp10 2
        simp only [List.getElem?_toArray, List.getElem?_cons_zero, List.getElem?_cons_succ] at p0 p1 p2
        replace hb10 := Lib.hid hb10; replace N10 := Lib.hid N10; replace hp10 := Lib.hid hp10
        clear b10
        go_wp2_with (fail)
        clear x0 x1 x2 p0 p1 p2
        refine (noCopy N10.out).mono ?_
        rintro e w11 ⟨rfl, b11⟩
        have hb11 := hb10.out.trans (b11.mono hb10.out.size)
        have N11 := N10.out.below b11
        have hp11 := (b11.block _ (blkX hp10.out)).trans hp10.out
        have hq := (hb11.block _ (blkX hx1.out)).trans hx1.out
        have x0 := blkC hq 0; have x1 := blkC hq 1; have x2 := blkC hq 2
        simp only [List.getElem?_toArray, List.getElem?_cons_zero, List.getElem?_cons_succ] at x0 x1 x2
        clear hq
        have p0 := blkC hp11 0; have p1 := blkC hp11 1; have p2 := blkC hp11 2
        simp only [List.getElem?_toArray, List.getElem?_cons_zero, List.getElem?_cons_succ] at p0 p1 p2
        replace hb11 := Lib.hid hb11; replace N11 := Lib.hid N11; replace hp11 := Lib.hid hp11
        clear b11
        go_wp2_with (fail)
        exact ⟨⟨k + 1, by omega, by go_num, hb11.out⟩, by simp [intOf]; omega⟩
      · obtain rfl : k = 2 := by omega
        have hb2 := k1.out.trans (hb.mono k1.out.size)
        have hn := new_ok 5 w2.heap.size w2 (by omega) (by omega) (Nat.le_refl _)
        replace hb2 := Lib.hid hb2
        clear hb hlt hk hlen hi
        go_wp2_with (fail)
        refine hn.mono ?_
        rintro e w3 ⟨rfl, ht, hb3⟩
        have T3 := tb_new ht hb3
        have kb3 := (Below.refl w3.heap.size w3).alloc (Nat.le_refl _) (.cells #[.int .i64 3, .int .i64 2, .int .i64 1] 23)
        have hp := hpNew w3 (.cells #[.int .i64 3, .int .i64 2, .int .i64 1] 23)
        have T4 := T3.below kb3
        obtain ⟨V, hV⟩ : ∃ V, V = w3.alloc (.cells #[.int .i64 3, .int .i64 2, .int .i64 1] 23) := ⟨_, rfl⟩
        have hED : w3.heap.size ≠ w2.heap.size := by have := T3.lt; omega
        rw [← hV] at kb3 hp T4
        have hput := T4.put nX.e nX.k nX.r (by decide)
        rw [show putC 5 [] ⟨nX.e, nX.k, nX.r⟩ = 0 from n_a] at hput
        have hpl := blkX hp
        replace T3 := Lib.hid T3; replace T4 := Lib.hid T4; replace kb3 := Lib.hid kb3; replace hp := Lib.hid hp
        clear ht hb3 hn
        go_wp2_with (fail)
        rw [← hV]
        replace hV := Lib.hid hV
        obtain ⟨E, hE⟩ : ∃ E, E = w3.heap.size := ⟨_, rfl⟩
        rw [← hE] at hED hp hpl ⊢
        refine hput.mono ?_
        rintro e w5 ⟨rfl, T5, hkp, hs5⟩
        have hp5 := hkp _ _ _ _ hp.out hED (by decide)
        have T5 : Tb w2.heap.size w2 w2.heap.size 5 [nX] w5 := T5
        have hal := T5.all
        have hE5 := blkX hp5
        replace hp5 := Lib.hid hp5; replace T5 := Lib.hid T5
        clear hput T4 hkp
        go_wp2_with (fail)
        refine hal.mono ?_
        rintro e w6 ⟨B, m, d, rfl, rfl, hES, hB, T6, hb6⟩
        obtain ⟨g, o, x, rfl, hgl, hx, p0, p1, p2⟩ := ES.at_ hES (i := 0) (Nat.zero_lt_one)
        obtain ⟨hge, cs, hg⟩ := hB g rfl
        have gf := blkF hg
        have hb7 := hb6.setCell (p := ⟨g, o, none⟩) hge (.int .i64 4)
        rw [Nat.zero_mul, Nat.add_zero] at p0
        have hp6 := (hb6.block _ (blkX hp5.out)).trans hp5.out
        obtain ⟨W7, hW7⟩ : ∃ W7, W7 = w6.setCell ⟨g, o, none⟩ (.int .i64 4) := ⟨_, rfl⟩
        rw [← hW7] at hb7
        have T7 := T5.out.below hb7
        have hp7 := (hb7.block _ (blkX hp5.out)).trans hp5.out
        have hcp := T7.copy
        replace hp6 := Lib.hid hp6; replace hp7 := Lib.hid hp7; replace T7 := Lib.hid T7; replace T6 := Lib.hid T6; replace hES := Lib.hid hES; replace hx := Lib.hid hx; replace hg := Lib.hid hg; replace hge := Lib.hid hge; replace hb6 := Lib.hid hb6; replace hb7 := Lib.hid hb7
        clear hB hal hs5 p1 p2
        go_wp2_with (fail)
        rw [← hW7]
        replace hW7 := Lib.hid hW7
        refine hcp.mono ?_
        rintro e w8 ⟨D', rfl, C8, T8, hb8⟩
        have hp8 := (hb8.block _ (blkX hp7.out)).trans hp7.out
        have hput := C8.put nY.e nY.k nY.r (by decide)
        rw [show putC 5 [nX] ⟨nY.e, nY.k, nY.r⟩ = 0 from n_b] at hput
        have C8l := C8.lt
        replace hp8 := Lib.hid hp8; replace T8 := Lib.hid T8; replace C8 := Lib.hid C8; replace hb8 := Lib.hid hb8
        clear hcp p0 gf
        go_wp2_with (fail)
        refine hput.mono ?_
        rintro e w9 ⟨rfl, C9, -, -⟩
        have T9 := T7.out.below C9.bel
        have hp9 := (C9.bel.block _ (blkX hp7.out)).trans hp7.out
        have C9 : Tb W7.heap.size W7 D' 5 (putL 5 [nX] nY) w9 := C9
        replace C9 := Lib.hid C9; replace T9 := Lib.hid T9; replace hp9 := Lib.hid hp9
        clear hput
        go_wp2_with (fail)
        refine wp_region_any (by kernel_rfl) ?_
        try (change wpAny _ _ _ _ _ _ _ (World.drew _))
        have kV := Lib.hid ((Below.refl w9.heap.size w9).drew)
        generalize w9.drew = V at *
        refine wpAny_take (i := 0) (v := ?_) rfl (by kernel_rfl) (by kernel_rfl) (by kernel_rfl) (fun _ _ _ h => h) (Or.inl ⟨by rfl, by intro w; go_simp; first | done | with_reducible rfl⟩) ?_
        simp only [List.getElem_toArray, List.getElem_cons_succ, List.getElem_cons_zero, Act.put, List.setIfInBounds_toArray, List.set_cons_zero, List.set_cons_succ]
        refine wpAny_ready (rs := [1, 2]) (by kernel_rfl) (by simp) ?_
        refine AllReady.cons rfl (fun K hK => ?_) ?_
        · have hK' := hK; clear hK; have hK := hK'; clear hK'
          have hq := (T9.out.below kV.out).all
          go_simp
          refine hq.mono ?_
          rintro e' VA ⟨B2, m2, d2, rfl, hm2, hEL, -, -, b⟩
          have hm3 : m2 = 1 := hm2
          subst hm3
          have hEL : ES VA B2 1 [(3, 2, 1)] := hEL
          replace hEL := Lib.hid hEL
          have kV1 := Lib.hid (kV.out.trans (b.mono kV.out.size))
          clear kV; have kV := kV1; clear kV1
          clear b hq hm2
          refine hK _ _ ?_
          clear hK K
          refine wpAny_ready (rs := [2]) (by kernel_rfl) (by simp) ?_
          refine AllReady.cons rfl (fun K hK => ?_) ?_
          · have hK' := hK; clear hK; have hK := hK'; clear hK'
            have hq := (kV.out.block _ (blkX hp9.out)).trans hp9.out
            have x0 := blkC hq 0; have x1 := blkC hq 1; have x2 := blkC hq 2
            simp only [List.getElem?_toArray, List.getElem?_cons_zero, List.getElem?_cons_succ] at x0 x1 x2
            rw [hE] at x0 x1 x2
            go_simp
            refine hK _ _ ?_
            clear hK K
            clear x0 x1 x2 hq
            refine wpAny_ready (rs := [3]) (by kernel_rfl) (by simp) ?_
            refine AllReady.cons rfl (fun K hK => ?_) ?_
            · have hK' := hK; clear hK; have hK := hK'; clear hK'
              have hER := es_row VA [(3, 2, 1)] #[.int .i64 3, .int .i64 2, .int .i64 1] rfl (by decide)
              have b := (Below.refl VA.heap.size VA).alloc (Nat.le_refl _) (.cells #[.int .i64 3, .int .i64 2, .int .i64 1] 23)
              obtain ⟨VB, hVB⟩ : ∃ VB, VB = VA.alloc (.cells #[.int .i64 3, .int .i64 2, .int .i64 1] 23) := ⟨_, rfl⟩
              rw [← hVB] at b hER
              replace hER := Lib.hid hER
              have kV1 := Lib.hid (kV.out.trans (b.mono kV.out.size))
              clear kV; have kV := kV1; clear kV1
              have hEL1 := Lib.hid (SL.keep hEL.out b)
              clear hEL; have hEL := hEL1; clear hEL1
              clear b
              go_simp
              refine hK _ _ ?_
              clear hK K
              rw [← hVB]
              replace hVB := Lib.hid hVB
              refine wpAny_ready (rs := [4]) (by kernel_rfl) (by simp) ?_
              refine AllReady.cons rfl (fun K hK => ?_) ?_
              · have hK' := hK; clear hK; have hK := hK'; clear hK'
                have he := fun d => equal_any _ _ 1 d2 1 d _ _ _ hEL.out hER.out (by omega) (by omega)
                simp only [decide_true] at he
                go_simp
                refine (he _).mono ?_
                rintro e' VC ⟨rfl, b⟩
                have kV1 := Lib.hid (kV.out.trans (b.mono kV.out.size))
                clear kV; have kV := kV1; clear kV1
                clear b he hEL hER
                refine hK _ _ ?_
                clear hK K
                refine wpAny_take (i := 5) (v := ?_) rfl (by kernel_rfl) (by kernel_rfl) (by kernel_rfl) (fun _ _ _ h => h) (Or.inl ⟨by rfl, by intro w; go_simp; first | done | with_reducible rfl⟩) ?_
                simp only [List.getElem_toArray, List.getElem_cons_succ, List.getElem_cons_zero, Act.put, List.setIfInBounds_toArray, List.set_cons_zero, List.set_cons_succ]
                refine wpAny_take (i := 6) (v := ?_) rfl (by kernel_rfl) (by kernel_rfl) (by kernel_rfl) (fun _ _ _ h => h) (Or.inl ⟨by rfl, by intro w; go_simp; first | done | with_reducible rfl⟩) ?_
                simp only [List.getElem_toArray, List.getElem_cons_succ, List.getElem_cons_zero, Act.put, List.setIfInBounds_toArray, List.set_cons_zero, List.set_cons_succ]
                refine wpAny_ready (rs := [7]) (by kernel_rfl) (by simp) ?_
                refine AllReady.cons rfl (fun K hK => ?_) ?_
                · have hK' := hK; clear hK; have hK := hK'; clear hK'
                  have hq := (C9.out.below kV.out).len
                  rw [n_l] at hq
                  go_simp
                  refine hq.mono ?_
                  rintro _ _ ⟨rfl, rfl⟩
                  clear hq
                  refine hK _ _ ?_
                  clear hK K
                  refine wpAny_take (i := 8) (v := ?_) rfl (by kernel_rfl) (by kernel_rfl) (by kernel_rfl) (fun _ _ _ h => h) (Or.inl ⟨by rfl, by intro w; go_simp; first | done | with_reducible rfl⟩) ?_
                  simp only [List.getElem_toArray, List.getElem_cons_succ, List.getElem_cons_zero, Act.put, List.setIfInBounds_toArray, List.set_cons_zero, List.set_cons_succ]
                  refine wpAny_take (i := 9) (v := ?_) rfl (by kernel_rfl) (by kernel_rfl) (by kernel_rfl) (fun _ _ _ h => h) (Or.inl ⟨by rfl, by intro w; go_simp; first | done | with_reducible rfl⟩) ?_
                  simp only [List.getElem_toArray, List.getElem_cons_succ, List.getElem_cons_zero, Act.put, List.setIfInBounds_toArray, List.set_cons_zero, List.set_cons_succ]
                  refine wpAny_take (i := 10) (v := ?_) rfl (by kernel_rfl) (by kernel_rfl) (by kernel_rfl) (fun _ _ _ h => h) (Or.inl ⟨by rfl, by intro w; go_simp; first | done | with_reducible rfl⟩) ?_
                  simp only [List.getElem_toArray, List.getElem_cons_succ, List.getElem_cons_zero, Act.put, List.setIfInBounds_toArray, List.set_cons_zero, List.set_cons_succ]
                  refine wpAny_ready (rs := [11]) (by kernel_rfl) (by simp) ?_
                  refine AllReady.cons rfl (fun K hK => ?_) ?_
                  · have hK' := hK; clear hK; have hK := hK'; clear hK'
                    go_simp
                    refine (works_any _).mono ?_
                    rintro e' VE ⟨rfl, b⟩
                    have kV1 := Lib.hid (kV.out.trans (b.mono kV.out.size))
                    clear kV; have kV := kV1; clear kV1
                    clear b
                    refine hK _ _ ?_
                    clear hK K
                    refine wpAny_take (i := 12) (v := ?_) rfl (by kernel_rfl) (by kernel_rfl) (by kernel_rfl) (fun _ _ _ h => h) (Or.inl ⟨by rfl, by intro w; go_simp; first | done | with_reducible rfl⟩) ?_
                    simp only [List.getElem_toArray, List.getElem_cons_succ, List.getElem_cons_zero, Act.put, List.setIfInBounds_toArray, List.set_cons_zero, List.set_cons_succ]
                    refine wpAny_take (i := 13) (v := ?_) rfl (by kernel_rfl) (by kernel_rfl) (by kernel_rfl) (fun _ _ _ h => h) (Or.inl ⟨by rfl, by intro w; go_simp; first | done | with_reducible rfl⟩) ?_
                    simp only [List.getElem_toArray, List.getElem_cons_succ, List.getElem_cons_zero, Act.put, List.setIfInBounds_toArray, List.set_cons_zero, List.set_cons_succ]
                    refine wpAny_done (by kernel_rfl) ?_ _
                    go_wp2_with (fail)
                    go_ret
                    exact ⟨rfl, hb2.out.trans ((T9.out.bel.trans (kV.out.mono T9.out.le)).mono hb2.out.size)⟩
                  exact AllReady.nil
                exact AllReady.nil
              exact AllReady.nil
            exact AllReady.nil
          exact AllReady.nil
        refine AllReady.cons rfl (fun K hK => ?_) ?_
        · have hK' := hK; clear hK; have hK := hK'; clear hK'
          have hq := (kV.out.block _ (blkX hp9.out)).trans hp9.out
          have x0 := blkC hq 0; have x1 := blkC hq 1; have x2 := blkC hq 2
          simp only [List.getElem?_toArray, List.getElem?_cons_zero, List.getElem?_cons_succ] at x0 x1 x2
          rw [hE] at x0 x1 x2
          go_simp
          refine hK _ _ ?_
          clear hK K
          clear x0 x1 x2 hq
          refine wpAny_ready (rs := [1, 3]) (by kernel_rfl) (by simp) ?_
          refine AllReady.cons rfl (fun K hK => ?_) ?_
          · have hK' := hK; clear hK; have hK := hK'; clear hK'
            have hq := (T9.out.below kV.out).all
            go_simp
            refine hq.mono ?_
            rintro e' VA ⟨B2, m2, d2, rfl, hm2, hEL, -, -, b⟩
            have hm3 : m2 = 1 := hm2
            subst hm3
            have hEL : ES VA B2 1 [(3, 2, 1)] := hEL
            replace hEL := Lib.hid hEL
            have kV1 := Lib.hid (kV.out.trans (b.mono kV.out.size))
            clear kV; have kV := kV1; clear kV1
            clear b hq hm2
            refine hK _ _ ?_
            clear hK K
            refine wpAny_ready (rs := [3]) (by kernel_rfl) (by simp) ?_
            refine AllReady.cons rfl (fun K hK => ?_) ?_
            · have hK' := hK; clear hK; have hK := hK'; clear hK'
              have hER := es_row VA [(3, 2, 1)] #[.int .i64 3, .int .i64 2, .int .i64 1] rfl (by decide)
              have b := (Below.refl VA.heap.size VA).alloc (Nat.le_refl _) (.cells #[.int .i64 3, .int .i64 2, .int .i64 1] 23)
              obtain ⟨VB, hVB⟩ : ∃ VB, VB = VA.alloc (.cells #[.int .i64 3, .int .i64 2, .int .i64 1] 23) := ⟨_, rfl⟩
              rw [← hVB] at b hER
              replace hER := Lib.hid hER
              have kV1 := Lib.hid (kV.out.trans (b.mono kV.out.size))
              clear kV; have kV := kV1; clear kV1
              have hEL1 := Lib.hid (SL.keep hEL.out b)
              clear hEL; have hEL := hEL1; clear hEL1
              clear b
              go_simp
              refine hK _ _ ?_
              clear hK K
              rw [← hVB]
              replace hVB := Lib.hid hVB
              refine wpAny_ready (rs := [4]) (by kernel_rfl) (by simp) ?_
              refine AllReady.cons rfl (fun K hK => ?_) ?_
              · have hK' := hK; clear hK; have hK := hK'; clear hK'
                have he := fun d => equal_any _ _ 1 d2 1 d _ _ _ hEL.out hER.out (by omega) (by omega)
                simp only [decide_true] at he
                go_simp
                refine (he _).mono ?_
                rintro e' VC ⟨rfl, b⟩
                have kV1 := Lib.hid (kV.out.trans (b.mono kV.out.size))
                clear kV; have kV := kV1; clear kV1
                clear b he hEL hER
                refine hK _ _ ?_
                clear hK K
                refine wpAny_take (i := 5) (v := ?_) rfl (by kernel_rfl) (by kernel_rfl) (by kernel_rfl) (fun _ _ _ h => h) (Or.inl ⟨by rfl, by intro w; go_simp; first | done | with_reducible rfl⟩) ?_
                simp only [List.getElem_toArray, List.getElem_cons_succ, List.getElem_cons_zero, Act.put, List.setIfInBounds_toArray, List.set_cons_zero, List.set_cons_succ]
                refine wpAny_take (i := 6) (v := ?_) rfl (by kernel_rfl) (by kernel_rfl) (by kernel_rfl) (fun _ _ _ h => h) (Or.inl ⟨by rfl, by intro w; go_simp; first | done | with_reducible rfl⟩) ?_
                simp only [List.getElem_toArray, List.getElem_cons_succ, List.getElem_cons_zero, Act.put, List.setIfInBounds_toArray, List.set_cons_zero, List.set_cons_succ]
                refine wpAny_ready (rs := [7]) (by kernel_rfl) (by simp) ?_
                refine AllReady.cons rfl (fun K hK => ?_) ?_
                · have hK' := hK; clear hK; have hK := hK'; clear hK'
                  have hq := (C9.out.below kV.out).len
                  rw [n_l] at hq
                  go_simp
                  refine hq.mono ?_
                  rintro _ _ ⟨rfl, rfl⟩
                  clear hq
                  refine hK _ _ ?_
                  clear hK K
                  refine wpAny_take (i := 8) (v := ?_) rfl (by kernel_rfl) (by kernel_rfl) (by kernel_rfl) (fun _ _ _ h => h) (Or.inl ⟨by rfl, by intro w; go_simp; first | done | with_reducible rfl⟩) ?_
                  simp only [List.getElem_toArray, List.getElem_cons_succ, List.getElem_cons_zero, Act.put, List.setIfInBounds_toArray, List.set_cons_zero, List.set_cons_succ]
                  refine wpAny_take (i := 9) (v := ?_) rfl (by kernel_rfl) (by kernel_rfl) (by kernel_rfl) (fun _ _ _ h => h) (Or.inl ⟨by rfl, by intro w; go_simp; first | done | with_reducible rfl⟩) ?_
                  simp only [List.getElem_toArray, List.getElem_cons_succ, List.getElem_cons_zero, Act.put, List.setIfInBounds_toArray, List.set_cons_zero, List.set_cons_succ]
                  refine wpAny_take (i := 10) (v := ?_) rfl (by kernel_rfl) (by kernel_rfl) (by kernel_rfl) (fun _ _ _ h => h) (Or.inl ⟨by rfl, by intro w; go_simp; first | done | with_reducible rfl⟩) ?_
                  simp only [List.getElem_toArray, List.getElem_cons_succ, List.getElem_cons_zero, Act.put, List.setIfInBounds_toArray, List.set_cons_zero, List.set_cons_succ]
                  refine wpAny_ready (rs := [11]) (by kernel_rfl) (by simp) ?_
                  refine AllReady.cons rfl (fun K hK => ?_) ?_
                  · have hK' := hK; clear hK; have hK := hK'; clear hK'
                    go_simp
                    refine (works_any _).mono ?_
                    rintro e' VE ⟨rfl, b⟩
                    have kV1 := Lib.hid (kV.out.trans (b.mono kV.out.size))
                    clear kV; have kV := kV1; clear kV1
                    clear b
                    refine hK _ _ ?_
                    clear hK K
                    refine wpAny_take (i := 12) (v := ?_) rfl (by kernel_rfl) (by kernel_rfl) (by kernel_rfl) (fun _ _ _ h => h) (Or.inl ⟨by rfl, by intro w; go_simp; first | done | with_reducible rfl⟩) ?_
                    simp only [List.getElem_toArray, List.getElem_cons_succ, List.getElem_cons_zero, Act.put, List.setIfInBounds_toArray, List.set_cons_zero, List.set_cons_succ]
                    refine wpAny_take (i := 13) (v := ?_) rfl (by kernel_rfl) (by kernel_rfl) (by kernel_rfl) (fun _ _ _ h => h) (Or.inl ⟨by rfl, by intro w; go_simp; first | done | with_reducible rfl⟩) ?_
                    simp only [List.getElem_toArray, List.getElem_cons_succ, List.getElem_cons_zero, Act.put, List.setIfInBounds_toArray, List.set_cons_zero, List.set_cons_succ]
                    refine wpAny_done (by kernel_rfl) ?_ _
                    go_wp2_with (fail)
                    go_ret
                    exact ⟨rfl, hb2.out.trans ((T9.out.bel.trans (kV.out.mono T9.out.le)).mono hb2.out.size)⟩
                  exact AllReady.nil
                exact AllReady.nil
              exact AllReady.nil
            exact AllReady.nil
          refine AllReady.cons rfl (fun K hK => ?_) ?_
          · have hK' := hK; clear hK; have hK := hK'; clear hK'
            have hER := es_row V [(3, 2, 1)] #[.int .i64 3, .int .i64 2, .int .i64 1] rfl (by decide)
            have b := (Below.refl V.heap.size V).alloc (Nat.le_refl _) (.cells #[.int .i64 3, .int .i64 2, .int .i64 1] 23)
            obtain ⟨VB, hVB⟩ : ∃ VB, VB = V.alloc (.cells #[.int .i64 3, .int .i64 2, .int .i64 1] 23) := ⟨_, rfl⟩
            rw [← hVB] at b hER
            replace hER := Lib.hid hER
            have kV1 := Lib.hid (kV.out.trans (b.mono kV.out.size))
            clear kV; have kV := kV1; clear kV1
            clear b
            go_simp
            refine hK _ _ ?_
            clear hK K
            rw [← hVB]
            replace hVB := Lib.hid hVB
            refine wpAny_ready (rs := [1]) (by kernel_rfl) (by simp) ?_
            refine AllReady.cons rfl (fun K hK => ?_) ?_
            · have hK' := hK; clear hK; have hK := hK'; clear hK'
              have hq := (T9.out.below kV.out).all
              go_simp
              refine hq.mono ?_
              rintro e' VA ⟨B2, m2, d2, rfl, hm2, hEL, -, -, b⟩
              have hm3 : m2 = 1 := hm2
              subst hm3
              have hEL : ES VA B2 1 [(3, 2, 1)] := hEL
              replace hEL := Lib.hid hEL
              have kV1 := Lib.hid (kV.out.trans (b.mono kV.out.size))
              clear kV; have kV := kV1; clear kV1
              have hER1 := Lib.hid (SL.keep hER.out b)
              clear hER; have hER := hER1; clear hER1
              clear b hq hm2
              refine hK _ _ ?_
              clear hK K
              refine wpAny_ready (rs := [4]) (by kernel_rfl) (by simp) ?_
              refine AllReady.cons rfl (fun K hK => ?_) ?_
              · have hK' := hK; clear hK; have hK := hK'; clear hK'
                have he := fun d => equal_any _ _ 1 d2 1 d _ _ _ hEL.out hER.out (by omega) (by omega)
                simp only [decide_true] at he
                go_simp
                refine (he _).mono ?_
                rintro e' VC ⟨rfl, b⟩
                have kV1 := Lib.hid (kV.out.trans (b.mono kV.out.size))
                clear kV; have kV := kV1; clear kV1
                clear b he hEL hER
                refine hK _ _ ?_
                clear hK K
                refine wpAny_take (i := 5) (v := ?_) rfl (by kernel_rfl) (by kernel_rfl) (by kernel_rfl) (fun _ _ _ h => h) (Or.inl ⟨by rfl, by intro w; go_simp; first | done | with_reducible rfl⟩) ?_
                simp only [List.getElem_toArray, List.getElem_cons_succ, List.getElem_cons_zero, Act.put, List.setIfInBounds_toArray, List.set_cons_zero, List.set_cons_succ]
                refine wpAny_take (i := 6) (v := ?_) rfl (by kernel_rfl) (by kernel_rfl) (by kernel_rfl) (fun _ _ _ h => h) (Or.inl ⟨by rfl, by intro w; go_simp; first | done | with_reducible rfl⟩) ?_
                simp only [List.getElem_toArray, List.getElem_cons_succ, List.getElem_cons_zero, Act.put, List.setIfInBounds_toArray, List.set_cons_zero, List.set_cons_succ]
                refine wpAny_ready (rs := [7]) (by kernel_rfl) (by simp) ?_
                refine AllReady.cons rfl (fun K hK => ?_) ?_
                · have hK' := hK; clear hK; have hK := hK'; clear hK'
                  have hq := (C9.out.below kV.out).len
                  rw [n_l] at hq
                  go_simp
                  refine hq.mono ?_
                  rintro _ _ ⟨rfl, rfl⟩
                  clear hq
                  refine hK _ _ ?_
                  clear hK K
                  refine wpAny_take (i := 8) (v := ?_) rfl (by kernel_rfl) (by kernel_rfl) (by kernel_rfl) (fun _ _ _ h => h) (Or.inl ⟨by rfl, by intro w; go_simp; first | done | with_reducible rfl⟩) ?_
                  simp only [List.getElem_toArray, List.getElem_cons_succ, List.getElem_cons_zero, Act.put, List.setIfInBounds_toArray, List.set_cons_zero, List.set_cons_succ]
                  refine wpAny_take (i := 9) (v := ?_) rfl (by kernel_rfl) (by kernel_rfl) (by kernel_rfl) (fun _ _ _ h => h) (Or.inl ⟨by rfl, by intro w; go_simp; first | done | with_reducible rfl⟩) ?_
                  simp only [List.getElem_toArray, List.getElem_cons_succ, List.getElem_cons_zero, Act.put, List.setIfInBounds_toArray, List.set_cons_zero, List.set_cons_succ]
                  refine wpAny_take (i := 10) (v := ?_) rfl (by kernel_rfl) (by kernel_rfl) (by kernel_rfl) (fun _ _ _ h => h) (Or.inl ⟨by rfl, by intro w; go_simp; first | done | with_reducible rfl⟩) ?_
                  simp only [List.getElem_toArray, List.getElem_cons_succ, List.getElem_cons_zero, Act.put, List.setIfInBounds_toArray, List.set_cons_zero, List.set_cons_succ]
                  refine wpAny_ready (rs := [11]) (by kernel_rfl) (by simp) ?_
                  refine AllReady.cons rfl (fun K hK => ?_) ?_
                  · have hK' := hK; clear hK; have hK := hK'; clear hK'
                    go_simp
                    refine (works_any _).mono ?_
                    rintro e' VE ⟨rfl, b⟩
                    have kV1 := Lib.hid (kV.out.trans (b.mono kV.out.size))
                    clear kV; have kV := kV1; clear kV1
                    clear b
                    refine hK _ _ ?_
                    clear hK K
                    refine wpAny_take (i := 12) (v := ?_) rfl (by kernel_rfl) (by kernel_rfl) (by kernel_rfl) (fun _ _ _ h => h) (Or.inl ⟨by rfl, by intro w; go_simp; first | done | with_reducible rfl⟩) ?_
                    simp only [List.getElem_toArray, List.getElem_cons_succ, List.getElem_cons_zero, Act.put, List.setIfInBounds_toArray, List.set_cons_zero, List.set_cons_succ]
                    refine wpAny_take (i := 13) (v := ?_) rfl (by kernel_rfl) (by kernel_rfl) (by kernel_rfl) (fun _ _ _ h => h) (Or.inl ⟨by rfl, by intro w; go_simp; first | done | with_reducible rfl⟩) ?_
                    simp only [List.getElem_toArray, List.getElem_cons_succ, List.getElem_cons_zero, Act.put, List.setIfInBounds_toArray, List.set_cons_zero, List.set_cons_succ]
                    refine wpAny_done (by kernel_rfl) ?_ _
                    go_wp2_with (fail)
                    go_ret
                    exact ⟨rfl, hb2.out.trans ((T9.out.bel.trans (kV.out.mono T9.out.le)).mono hb2.out.size)⟩
                  exact AllReady.nil
                exact AllReady.nil
              exact AllReady.nil
            exact AllReady.nil
          exact AllReady.nil
        exact AllReady.nil
end Go.Proofs.YtkdfhackpmdgfaaDoor
