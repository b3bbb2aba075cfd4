/- EffectsApart's walk. -/
import Derived.Test.YthmkfbabacehnaaSagP
import Derived.Deep.QuietTactic
import Derived.BigQuiet
namespace Go.Proofs.Ythmkfbabacehnaa
open Go.RowKit Go.Shelf
set_option linter.unusedSimpArgs false
set_option linter.unusedVariables false
set_option linter.unusedSectionVars false
set_option maxRecDepth 10000
/-- What EffectsApart keeps. -/
structure AP (w : World) (A : Option Addr) (n : Nat) (l : List Ef) (w2 : World) (I : Option Addr) (m : Nat) (ids : List Int) (W : World) : Prop where
  bel : Below w2.heap.size w2 W
  all : Below w.heap.size w W
  two : ES W A n l
  one : SL encI1 1 W I m ids
theorem AP.keep {w w2 W W' : World} {A I : Option Addr} {n m : Nat} {l : List Ef} {ids : List Int} (h : AP w A n l w2 I m ids W) (hb : Below W.heap.size W W') : AP w A n l w2 I m ids W' :=
  ⟨h.bel.trans (hb.mono h.bel.size), h.all.trans (hb.mono h.all.size), SL.keep h.two hb, SL.keep h.one hb⟩
def cntS (l : List Ef) (ids : List Int) : Nat := (ids.map fun v => (ofS v l).length).sum
theorem cntS_more {l : List Ef} {ids : List Int} {i : Nat} {x : Int} (h : ids[i]? = some x) : cntS l (ids.take (i + 1)) = cntS l (ids.take i) + (ofS x l).length := by
  rw [List.take_add_one, h]; simp [cntS]
theorem sum_take_le {l : List Ef} : ∀ (ids : List Int) (i : Nat), cntS l (ids.take i) ≤ (ids.map fun v => (ofS v l).length).sum
  | [], i => by simp [cntS]
  | v :: ids, 0 => by simp [cntS]
  | v :: ids, i + 1 => by
    have := sum_take_le (l := l) ids i
    simp only [cntS, List.take_succ_cons, List.map_cons, List.sum_cons] at *
    omega
theorem there_more {ids : List Int} {i : Nat} {x s : Int} (h : ids[i]? = some x) : decide (s ∈ ids.take (i + 1)) = (decide (s ∈ ids.take i) || (x == s)) := by
  rw [List.take_add_one, h, Bool.eq_iff_iff]
  simp only [Bool.or_eq_true, decide_eq_true_eq, List.mem_append, Option.toList, List.mem_singleton, beq_iff_eq]
  exact ⟨fun h => h.imp id Eq.symm, fun h => h.imp id Eq.symm⟩
set_option maxRecDepth 100000 in
set_option maxHeartbeats 4000000 in
theorem apart60 (A : Option Addr) (s : Int) (n c : Nat) (hl60 : 60 < n) (w : World) : Calls Try.prog 8 #[.slice A n c, .int .i64 s] w fun e w' => e = .returned (.bool true) ∧ Below w.heap.size w w' := by
  have h60 : (60 : Int) < n := by omega
  replace hl60 := Lib.hid hl60
  go_enter Try.func8, Try.ntmps8
  go_wp2_with (go_at_call 9; refine (works_any _).mono ?_; rintro e w1 ⟨rfl, b1⟩)
  go_ret
  exact ⟨rfl, b1⟩
set_option maxHeartbeats 16000000 in
theorem apart_walk (A : Option Addr) (n c : Nat) (l : List Ef) (s : Int) (w : World) (h : ES w A n l) : Calls Try.prog 8 #[.slice A n c, .int .i64 s] w fun e w' => e = .returned (.bool true) ∧ Below w.heap.size w w' := by
  by_cases hlen : 60 < n
  · exact apart60 A s n c hlen w
  have hn60 : n ≤ 60 := by omega
  have hl1 := h.1
  have hsg := sagas_any A n c l w h (by omega)
  obtain ⟨hmem, hpw⟩ := sagasP_spec l
  generalize sagasP l = ids at *
  have hcnt := sum_all hpw l (fun x hx => (hmem x.1).2 ⟨x, hx, rfl⟩)
  have hinc : ∀ (i : Nat) (x y : Int), ids[i]? = some x → ids[i + 1]? = some y → x < y := fun i x y hx hy => by
    have h1 := (List.getElem?_eq_some_iff.1 hx)
    have h2 := (List.getElem?_eq_some_iff.1 hy)
    obtain ⟨a1, rfl⟩ := h1
    obtain ⟨a2, rfl⟩ := h2
    exact List.pairwise_iff_getElem.1 hpw i (i + 1) a1 a2 (by omega)
  replace hmem := Lib.hid hmem; replace hcnt := Lib.hid hcnt; replace hinc := Lib.hid hinc; replace h := Lib.hid h
  clear hpw hlen
  go_enter Try.func8, Try.ntmps8
  go_wp2_with (fail)
  refine hsg.mono ?_
  rintro e w2 ⟨I, m, d, rfl, hmn, b2, hI⟩
  have hS : AP w A n l w2 I m ids w2 := ⟨Below.refl _ _, b2, SL.keep h.out b2, hI⟩
  have hml := hI.1
  replace hS := Lib.hid hS
  clear hsg b2 hI
  go_wp2_with (fail)
  go_loopw [6, 7, 8] (fun t ct i wr => ∃ j : Nat, j ≤ m ∧ i = .int .i64 j ∧ t = .bool (decide (s ∈ ids.take j)) ∧ ct = .int .i64 (cntS l (ids.take j) : Nat) ∧ AP w A n l w2 I m ids wr) (fun _ _ i _ => m - (intOf i).toNat)
  case atStart => exact ⟨0, by omega, rfl, by simp, by simp [cntS], hS.out⟩
  case round =>
    clear hS
    obtain ⟨i, hi, rfl, rfl, rfl, hS⟩ := hrel
    by_cases hlt : i < m
    · obtain ⟨b, o, x, rfl, hbl, hx, f1⟩ := hS.one.cellI hlt
      have hcm := cntS_more (l := l) hx
      have htm := there_more (s := s) hx
      generalize hctE : cntS l (ids.take i) = ct at *
      generalize decide (s ∈ ids.take i) = tb at *
      have i0 : (0 : Int) ≤ i := by omega
      have i1 : (i : Int) < m := by omega
      have hxm : ∃ y ∈ l, y.1 = x := (hmem.out x).1 (List.mem_of_getElem? hx)
      have hctb := Lib.hid (show ct ≤ 60 from by have h1 := sum_take_le (l := l) ids i; rw [hcnt.out] at h1; rw [← hctE]; show cntS l (ids.take i) ≤ 60; exact Nat.le_trans h1 (by omega))
      clear hctE
      replace hcm := Lib.hid hcm; replace htm := Lib.hid htm; replace hxm := Lib.hid hxm
      rcases Nat.eq_zero_or_pos i with hi0 | hi0
      · have g0 : ¬ (0 : Int) < i := by omega
        have g1 : decide ((0 : Int) < (i : Int)) = false := by simp; omega
        have g2 : ¬ 0 < i := by omega
        replace hi0 := Lib.hid hi0; replace hS := Lib.hid hS; replace hx := Lib.hid hx
        cases tb
        · go_wp2_with (fail)
          go_quiet (fail)
          go_wp2_with (fail)
          have kq := below_drewN (Below.refl wr.heap.size wr) nq
          have hO := of_any A n c l x (wr.drewN nq) (SL.keep hS.out.two kq) (by omega)
          have f1q : (wr.drewN nq).cell? ⟨b, o + i, none⟩ = some (.int .i64 x) := (kq.cell (p := ⟨b, o + i, none⟩) hbl).trans f1
          replace kq := Lib.hid kq
          go_wp2_with (fail)
          refine hO.mono ?_
          rintro e w3 ⟨A3, n3, c3, rfl, o3⟩
          have hn3 : n3 = (ofS x l).length := o3.len.symm
          have hn3l : n3 ≤ 60 := by rw [hn3]; have := ofS_len x l; omega
          have hS3 := (hS.out.keep kq.out).keep o3.bel
          have f3 := (o3.bel.cell (p := ⟨b, o + i, none⟩) (Nat.lt_of_lt_of_le hbl kq.out.size)).trans f1q
          have hbl3 := Nat.lt_of_lt_of_le hbl (Nat.le_trans kq.out.size o3.bel.size)
          have hctn : ct ≤ 3600 := Nat.le_of_lt_succ (by have := hctb.out; omega)
          replace hS3 := Lib.hid hS3; replace o3 := Lib.hid o3; replace hn3 := Lib.hid hn3
          clear hO f1 f1q
          go_wp2_with (fail)
          go_loopw [10, 11] (fun t v wr => ∃ k : Nat, k ≤ n ∧ v = .int .i64 k ∧ t = .int .i64 ((ofS x (l.take k)).length : Nat) ∧ Below w3.heap.size w3 wr) (fun _ v _ => n - (intOf v).toNat)
          case atStart => exact ⟨0, by omega, rfl, by simp [ofS], Below.refl _ _⟩
          case round =>
            obtain ⟨k, hk, rfl, rfl, hb⟩ := hrel
            by_cases hlt2 : k < n
            · have hS4 := hS3.out.keep hb
              obtain ⟨ba, oa, ⟨y0, y1, y2⟩, rfl, hbla, hy, e0, e1, e2⟩ := ES.at_ hS4.two hlt2
              have f4 := (hb.cell (p := ⟨b, o + i, none⟩) hbl3).trans f3
              have hat := ofS_at (v := x) hy
              have hmore := ofS_more (s := x) hy
              have hle : (ofS x (l.take k)).length ≤ 60 := by have := ofS_len x (l.take k); rw [List.length_take] at this; omega
              generalize hz : (ofS x (l.take k)).length = z at *
              simp only at e0 e1 e2 hat hmore
              have k0 : (0 : Int) ≤ k := by omega
              have z0 : (0 : Int) ≤ z := by omega
              by_cases hyx : y0 = x
              · subst hyx
                have hat := hat rfl
                rw [if_pos (by simp)] at hmore
                have hzlt : z < n3 := by rw [hn3.out]; exact (List.getElem?_eq_some_iff.1 hat).1
                obtain ⟨bb, ob, ⟨z0', z1', z2'⟩, hAe, hblb, hzz, g0', g1', g2'⟩ := ES.at_ (o3.out.keep hb).es hzlt
                subst hAe
                rw [hat] at hzz
                simp only [Option.some.injEq, Prod.mk.injEq] at hzz
                obtain ⟨h1, h2, h3⟩ := hzz
                subst h1 h2 h3
                simp only at g0' g1' g2'
                have hzm : (ofS y0 (l.take (k + 1))).length = z + 1 := by rw [hmore, List.length_append, hz]; rfl
                have hziI : ¬ (n3 : Int) ≤ (z : Int) := by omega
                have hziN : ¬ n3 ≤ z := by omega
                have hzi2 : (z : Int) < n3 := by omega
                replace hS4 := Lib.hid hS4; replace hb := Lib.hid hb; replace hmore := Lib.hid hmore; replace hz := Lib.hid hz; replace hzm := Lib.hid hzm
                clear hat hy
                go_wp2_with (fail)
                go_quiet (fail)
                go_wp2_with (fail)
                go_quiet (fail)
                go_wp2_with (fail)
                exact ⟨⟨k + 1, by omega, by go_num, by have q := hzm.out; simp [q], by first | exact below_drewN (below_drewN hb.out _) _ | exact below_drewN hb.out _⟩, by simp [intOf]; omega⟩
              · have hne := beq_false_of_ne hyx
                rw [if_neg (by simp [hyx])] at hmore
                have hzm : (ofS x (l.take (k + 1))).length = z := by rw [hmore, hz]
                replace hS4 := Lib.hid hS4; replace hb := Lib.hid hb; replace hmore := Lib.hid hmore; replace hz := Lib.hid hz; replace hzm := Lib.hid hzm
                clear hat hy
                go_wp2_with (fail)
                go_quiet (fail)
                go_wp2_with (fail)
                exact ⟨⟨k + 1, by omega, by go_num, by have q := hzm.out; simp [q], by first | exact below_drewN (below_drewN hb.out _) _ | exact below_drewN hb.out _⟩, by simp [intOf]; omega⟩
            · obtain rfl : k = n := by omega
              have hfull : (ofS x (l.take k)).length = n3 := by rw [List.take_of_length_le (by omega), ← hn3.out]
              have hpos : 0 < n3 := by rw [hn3.out]; exact ofS_pos.2 hxm.out
              rw [hfull]
              have p1 : ((n3 : Int) == 0) = false := beq_false_of_ne (by omega)
              have hS5 := Lib.hid (hS3.out.keep hb)
              replace hb := Lib.hid hb
              clear hfull
              go_wp2_with (fail)
              exact ⟨⟨i + 1, by omega, by go_num, by have q := htm.out; simp [q], by have q := hcm.out; have q2 := hn3.out; rw [q, q2]; simp, hS5.out⟩, by simp [intOf]; omega⟩
        · go_wp2_with (fail)
          go_quiet (fail)
          go_wp2_with (fail)
          have kq := below_drewN (Below.refl wr.heap.size wr) nq
          have hO := of_any A n c l x (wr.drewN nq) (SL.keep hS.out.two kq) (by omega)
          have f1q : (wr.drewN nq).cell? ⟨b, o + i, none⟩ = some (.int .i64 x) := (kq.cell (p := ⟨b, o + i, none⟩) hbl).trans f1
          replace kq := Lib.hid kq
          go_wp2_with (fail)
          refine hO.mono ?_
          rintro e w3 ⟨A3, n3, c3, rfl, o3⟩
          have hn3 : n3 = (ofS x l).length := o3.len.symm
          have hn3l : n3 ≤ 60 := by rw [hn3]; have := ofS_len x l; omega
          have hS3 := (hS.out.keep kq.out).keep o3.bel
          have f3 := (o3.bel.cell (p := ⟨b, o + i, none⟩) (Nat.lt_of_lt_of_le hbl kq.out.size)).trans f1q
          have hbl3 := Nat.lt_of_lt_of_le hbl (Nat.le_trans kq.out.size o3.bel.size)
          have hctn : ct ≤ 3600 := Nat.le_of_lt_succ (by have := hctb.out; omega)
          replace hS3 := Lib.hid hS3; replace o3 := Lib.hid o3; replace hn3 := Lib.hid hn3
          clear hO f1 f1q
          go_wp2_with (fail)
          go_loopw [10, 11] (fun t v wr => ∃ k : Nat, k ≤ n ∧ v = .int .i64 k ∧ t = .int .i64 ((ofS x (l.take k)).length : Nat) ∧ Below w3.heap.size w3 wr) (fun _ v _ => n - (intOf v).toNat)
          case atStart => exact ⟨0, by omega, rfl, by simp [ofS], Below.refl _ _⟩
          case round =>
            obtain ⟨k, hk, rfl, rfl, hb⟩ := hrel
            by_cases hlt2 : k < n
            · have hS4 := hS3.out.keep hb
              obtain ⟨ba, oa, ⟨y0, y1, y2⟩, rfl, hbla, hy, e0, e1, e2⟩ := ES.at_ hS4.two hlt2
              have f4 := (hb.cell (p := ⟨b, o + i, none⟩) hbl3).trans f3
              have hat := ofS_at (v := x) hy
              have hmore := ofS_more (s := x) hy
              have hle : (ofS x (l.take k)).length ≤ 60 := by have := ofS_len x (l.take k); rw [List.length_take] at this; omega
              generalize hz : (ofS x (l.take k)).length = z at *
              simp only at e0 e1 e2 hat hmore
              have k0 : (0 : Int) ≤ k := by omega
              have z0 : (0 : Int) ≤ z := by omega
              by_cases hyx : y0 = x
              · subst hyx
                have hat := hat rfl
                rw [if_pos (by simp)] at hmore
                have hzlt : z < n3 := by rw [hn3.out]; exact (List.getElem?_eq_some_iff.1 hat).1
                obtain ⟨bb, ob, ⟨z0', z1', z2'⟩, hAe, hblb, hzz, g0', g1', g2'⟩ := ES.at_ (o3.out.keep hb).es hzlt
                subst hAe
                rw [hat] at hzz
                simp only [Option.some.injEq, Prod.mk.injEq] at hzz
                obtain ⟨h1, h2, h3⟩ := hzz
                subst h1 h2 h3
                simp only at g0' g1' g2'
                have hzm : (ofS y0 (l.take (k + 1))).length = z + 1 := by rw [hmore, List.length_append, hz]; rfl
                have hziI : ¬ (n3 : Int) ≤ (z : Int) := by omega
                have hziN : ¬ n3 ≤ z := by omega
                have hzi2 : (z : Int) < n3 := by omega
                replace hS4 := Lib.hid hS4; replace hb := Lib.hid hb; replace hmore := Lib.hid hmore; replace hz := Lib.hid hz; replace hzm := Lib.hid hzm
                clear hat hy
                go_wp2_with (fail)
                go_quiet (fail)
                go_wp2_with (fail)
                go_quiet (fail)
                go_wp2_with (fail)
                exact ⟨⟨k + 1, by omega, by go_num, by have q := hzm.out; simp [q], by first | exact below_drewN (below_drewN hb.out _) _ | exact below_drewN hb.out _⟩, by simp [intOf]; omega⟩
              · have hne := beq_false_of_ne hyx
                rw [if_neg (by simp [hyx])] at hmore
                have hzm : (ofS x (l.take (k + 1))).length = z := by rw [hmore, hz]
                replace hS4 := Lib.hid hS4; replace hb := Lib.hid hb; replace hmore := Lib.hid hmore; replace hz := Lib.hid hz; replace hzm := Lib.hid hzm
                clear hat hy
                go_wp2_with (fail)
                go_quiet (fail)
                go_wp2_with (fail)
                exact ⟨⟨k + 1, by omega, by go_num, by have q := hzm.out; simp [q], by first | exact below_drewN (below_drewN hb.out _) _ | exact below_drewN hb.out _⟩, by simp [intOf]; omega⟩
            · obtain rfl : k = n := by omega
              have hfull : (ofS x (l.take k)).length = n3 := by rw [List.take_of_length_le (by omega), ← hn3.out]
              have hpos : 0 < n3 := by rw [hn3.out]; exact ofS_pos.2 hxm.out
              rw [hfull]
              have p1 : ((n3 : Int) == 0) = false := beq_false_of_ne (by omega)
              have hS5 := Lib.hid (hS3.out.keep hb)
              replace hb := Lib.hid hb
              clear hfull
              go_wp2_with (fail)
              exact ⟨⟨i + 1, by omega, by go_num, by have q := htm.out; simp [q], by have q := hcm.out; have q2 := hn3.out; rw [q, q2]; simp, hS5.out⟩, by simp [intOf]; omega⟩
      · obtain ⟨p, rfl⟩ : ∃ p, i = p + 1 := ⟨i - 1, by omega⟩
        obtain ⟨b', o', x', hAe, _, hx', f0⟩ := hS.one.cellI (i := p) (by omega)
        injection hAe with hAe
        injection hAe with hA1 hA2
        subst hA1 hA2
        have hxx := hinc.out p x' x hx' hx
        have hnle : ¬ x ≤ x' := by omega
        have g0 : (0 : Int) < ((p + 1 : Nat) : Int) := by omega
        have g2 : 0 < p + 1 := by omega
        have p0 : (0 : Int) ≤ p := by omega
        have p2 : (p : Int) < m := by omega
        have pm : (p : Int) ≤ 60 := by omega
        replace hS := Lib.hid hS; replace hx := Lib.hid hx; replace hx' := Lib.hid hx'
        cases tb
        · go_wp2_with (fail)
          go_quiet (fail)
          go_wp2_with (fail)
          have kq := below_drewN (Below.refl wr.heap.size wr) nq
          have hO := of_any A n c l x (wr.drewN nq) (SL.keep hS.out.two kq) (by omega)
          have f1q : (wr.drewN nq).cell? ⟨b, o + (p + 1), none⟩ = some (.int .i64 x) := (kq.cell (p := ⟨b, o + (p + 1), none⟩) hbl).trans f1
          replace kq := Lib.hid kq
          go_wp2_with (fail)
          refine hO.mono ?_
          rintro e w3 ⟨A3, n3, c3, rfl, o3⟩
          have hn3 : n3 = (ofS x l).length := o3.len.symm
          have hn3l : n3 ≤ 60 := by rw [hn3]; have := ofS_len x l; omega
          have hS3 := (hS.out.keep kq.out).keep o3.bel
          have f3 := (o3.bel.cell (p := ⟨b, o + (p + 1), none⟩) (Nat.lt_of_lt_of_le hbl kq.out.size)).trans f1q
          have hbl3 := Nat.lt_of_lt_of_le hbl (Nat.le_trans kq.out.size o3.bel.size)
          have hctn : ct ≤ 3600 := Nat.le_of_lt_succ (by have := hctb.out; omega)
          replace hS3 := Lib.hid hS3; replace o3 := Lib.hid o3; replace hn3 := Lib.hid hn3
          clear hO f1 f1q
          go_wp2_with (fail)
          go_loopw [10, 11] (fun t v wr => ∃ k : Nat, k ≤ n ∧ v = .int .i64 k ∧ t = .int .i64 ((ofS x (l.take k)).length : Nat) ∧ Below w3.heap.size w3 wr) (fun _ v _ => n - (intOf v).toNat)
          case atStart => exact ⟨0, by omega, rfl, by simp [ofS], Below.refl _ _⟩
          case round =>
            obtain ⟨k, hk, rfl, rfl, hb⟩ := hrel
            by_cases hlt2 : k < n
            · have hS4 := hS3.out.keep hb
              obtain ⟨ba, oa, ⟨y0, y1, y2⟩, rfl, hbla, hy, e0, e1, e2⟩ := ES.at_ hS4.two hlt2
              have f4 := (hb.cell (p := ⟨b, o + (p + 1), none⟩) hbl3).trans f3
              have hat := ofS_at (v := x) hy
              have hmore := ofS_more (s := x) hy
              have hle : (ofS x (l.take k)).length ≤ 60 := by have := ofS_len x (l.take k); rw [List.length_take] at this; omega
              generalize hz : (ofS x (l.take k)).length = z at *
              simp only at e0 e1 e2 hat hmore
              have k0 : (0 : Int) ≤ k := by omega
              have z0 : (0 : Int) ≤ z := by omega
              by_cases hyx : y0 = x
              · subst hyx
                have hat := hat rfl
                rw [if_pos (by simp)] at hmore
                have hzlt : z < n3 := by rw [hn3.out]; exact (List.getElem?_eq_some_iff.1 hat).1
                obtain ⟨bb, ob, ⟨z0', z1', z2'⟩, hAe, hblb, hzz, g0', g1', g2'⟩ := ES.at_ (o3.out.keep hb).es hzlt
                subst hAe
                rw [hat] at hzz
                simp only [Option.some.injEq, Prod.mk.injEq] at hzz
                obtain ⟨h1, h2, h3⟩ := hzz
                subst h1 h2 h3
                simp only at g0' g1' g2'
                have hzm : (ofS y0 (l.take (k + 1))).length = z + 1 := by rw [hmore, List.length_append, hz]; rfl
                have hziI : ¬ (n3 : Int) ≤ (z : Int) := by omega
                have hziN : ¬ n3 ≤ z := by omega
                have hzi2 : (z : Int) < n3 := by omega
                replace hS4 := Lib.hid hS4; replace hb := Lib.hid hb; replace hmore := Lib.hid hmore; replace hz := Lib.hid hz; replace hzm := Lib.hid hzm
                clear hat hy
                go_wp2_with (fail)
                go_quiet (fail)
                go_wp2_with (fail)
                go_quiet (fail)
                go_wp2_with (fail)
                exact ⟨⟨k + 1, by omega, by go_num, by have q := hzm.out; simp [q], by first | exact below_drewN (below_drewN hb.out _) _ | exact below_drewN hb.out _⟩, by simp [intOf]; omega⟩
              · have hne := beq_false_of_ne hyx
                rw [if_neg (by simp [hyx])] at hmore
                have hzm : (ofS x (l.take (k + 1))).length = z := by rw [hmore, hz]
                replace hS4 := Lib.hid hS4; replace hb := Lib.hid hb; replace hmore := Lib.hid hmore; replace hz := Lib.hid hz; replace hzm := Lib.hid hzm
                clear hat hy
                go_wp2_with (fail)
                go_quiet (fail)
                go_wp2_with (fail)
                exact ⟨⟨k + 1, by omega, by go_num, by have q := hzm.out; simp [q], by first | exact below_drewN (below_drewN hb.out _) _ | exact below_drewN hb.out _⟩, by simp [intOf]; omega⟩
            · obtain rfl : k = n := by omega
              have hfull : (ofS x (l.take k)).length = n3 := by rw [List.take_of_length_le (by omega), ← hn3.out]
              have hpos : 0 < n3 := by rw [hn3.out]; exact ofS_pos.2 hxm.out
              rw [hfull]
              have p1 : ((n3 : Int) == 0) = false := beq_false_of_ne (by omega)
              have hS5 := Lib.hid (hS3.out.keep hb)
              replace hb := Lib.hid hb
              clear hfull
              go_wp2_with (fail)
              exact ⟨⟨p + 1 + 1, by omega, by go_num, by have q := htm.out; simp [q], by have q := hcm.out; have q2 := hn3.out; rw [q, q2]; simp, hS5.out⟩, by simp [intOf]; omega⟩
        · go_wp2_with (fail)
          go_quiet (fail)
          go_wp2_with (fail)
          have kq := below_drewN (Below.refl wr.heap.size wr) nq
          have hO := of_any A n c l x (wr.drewN nq) (SL.keep hS.out.two kq) (by omega)
          have f1q : (wr.drewN nq).cell? ⟨b, o + (p + 1), none⟩ = some (.int .i64 x) := (kq.cell (p := ⟨b, o + (p + 1), none⟩) hbl).trans f1
          replace kq := Lib.hid kq
          go_wp2_with (fail)
          refine hO.mono ?_
          rintro e w3 ⟨A3, n3, c3, rfl, o3⟩
          have hn3 : n3 = (ofS x l).length := o3.len.symm
          have hn3l : n3 ≤ 60 := by rw [hn3]; have := ofS_len x l; omega
          have hS3 := (hS.out.keep kq.out).keep o3.bel
          have f3 := (o3.bel.cell (p := ⟨b, o + (p + 1), none⟩) (Nat.lt_of_lt_of_le hbl kq.out.size)).trans f1q
          have hbl3 := Nat.lt_of_lt_of_le hbl (Nat.le_trans kq.out.size o3.bel.size)
          have hctn : ct ≤ 3600 := Nat.le_of_lt_succ (by have := hctb.out; omega)
          replace hS3 := Lib.hid hS3; replace o3 := Lib.hid o3; replace hn3 := Lib.hid hn3
          clear hO f1 f1q
          go_wp2_with (fail)
          go_loopw [10, 11] (fun t v wr => ∃ k : Nat, k ≤ n ∧ v = .int .i64 k ∧ t = .int .i64 ((ofS x (l.take k)).length : Nat) ∧ Below w3.heap.size w3 wr) (fun _ v _ => n - (intOf v).toNat)
          case atStart => exact ⟨0, by omega, rfl, by simp [ofS], Below.refl _ _⟩
          case round =>
            obtain ⟨k, hk, rfl, rfl, hb⟩ := hrel
            by_cases hlt2 : k < n
            · have hS4 := hS3.out.keep hb
              obtain ⟨ba, oa, ⟨y0, y1, y2⟩, rfl, hbla, hy, e0, e1, e2⟩ := ES.at_ hS4.two hlt2
              have f4 := (hb.cell (p := ⟨b, o + (p + 1), none⟩) hbl3).trans f3
              have hat := ofS_at (v := x) hy
              have hmore := ofS_more (s := x) hy
              have hle : (ofS x (l.take k)).length ≤ 60 := by have := ofS_len x (l.take k); rw [List.length_take] at this; omega
              generalize hz : (ofS x (l.take k)).length = z at *
              simp only at e0 e1 e2 hat hmore
              have k0 : (0 : Int) ≤ k := by omega
              have z0 : (0 : Int) ≤ z := by omega
              by_cases hyx : y0 = x
              · subst hyx
                have hat := hat rfl
                rw [if_pos (by simp)] at hmore
                have hzlt : z < n3 := by rw [hn3.out]; exact (List.getElem?_eq_some_iff.1 hat).1
                obtain ⟨bb, ob, ⟨z0', z1', z2'⟩, hAe, hblb, hzz, g0', g1', g2'⟩ := ES.at_ (o3.out.keep hb).es hzlt
                subst hAe
                rw [hat] at hzz
                simp only [Option.some.injEq, Prod.mk.injEq] at hzz
                obtain ⟨h1, h2, h3⟩ := hzz
                subst h1 h2 h3
                simp only at g0' g1' g2'
                have hzm : (ofS y0 (l.take (k + 1))).length = z + 1 := by rw [hmore, List.length_append, hz]; rfl
                have hziI : ¬ (n3 : Int) ≤ (z : Int) := by omega
                have hziN : ¬ n3 ≤ z := by omega
                have hzi2 : (z : Int) < n3 := by omega
                replace hS4 := Lib.hid hS4; replace hb := Lib.hid hb; replace hmore := Lib.hid hmore; replace hz := Lib.hid hz; replace hzm := Lib.hid hzm
                clear hat hy
                go_wp2_with (fail)
                go_quiet (fail)
                go_wp2_with (fail)
                go_quiet (fail)
                go_wp2_with (fail)
                exact ⟨⟨k + 1, by omega, by go_num, by have q := hzm.out; simp [q], by first | exact below_drewN (below_drewN hb.out _) _ | exact below_drewN hb.out _⟩, by simp [intOf]; omega⟩
              · have hne := beq_false_of_ne hyx
                rw [if_neg (by simp [hyx])] at hmore
                have hzm : (ofS x (l.take (k + 1))).length = z := by rw [hmore, hz]
                replace hS4 := Lib.hid hS4; replace hb := Lib.hid hb; replace hmore := Lib.hid hmore; replace hz := Lib.hid hz; replace hzm := Lib.hid hzm
                clear hat hy
                go_wp2_with (fail)
                go_quiet (fail)
                go_wp2_with (fail)
                exact ⟨⟨k + 1, by omega, by go_num, by have q := hzm.out; simp [q], by first | exact below_drewN (below_drewN hb.out _) _ | exact below_drewN hb.out _⟩, by simp [intOf]; omega⟩
            · obtain rfl : k = n := by omega
              have hfull : (ofS x (l.take k)).length = n3 := by rw [List.take_of_length_le (by omega), ← hn3.out]
              have hpos : 0 < n3 := by rw [hn3.out]; exact ofS_pos.2 hxm.out
              rw [hfull]
              have p1 : ((n3 : Int) == 0) = false := beq_false_of_ne (by omega)
              have hS5 := Lib.hid (hS3.out.keep hb)
              replace hb := Lib.hid hb
              clear hfull
              go_wp2_with (fail)
              exact ⟨⟨p + 1 + 1, by omega, by go_num, by have q := htm.out; simp [q], by have q := hcm.out; have q2 := hn3.out; rw [q, q2]; simp, hS5.out⟩, by simp [intOf]; omega⟩
    · obtain rfl : i = m := by omega
      have hfull : ids.take i = ids := List.take_of_length_le (by omega)
      rw [hfull]
      have hcn : cntS l ids = n := by rw [← hl1, ← hcnt.out]; rfl
      rw [hcn]
      have hO := of_any A n c l s wr hS.two (by omega)
      have hmm : ∀ n3 : Nat, n3 = (ofS s l).length → decide (s ∈ ids) = decide ((0 : Int) < (n3 : Int)) := fun n3 he => by
        rw [he, Bool.eq_iff_iff, decide_eq_true_eq, decide_eq_true_eq, hmem.out s, ← ofS_pos]
        omega
      generalize decide (s ∈ ids) = tb at *
      have ha := hS.all
      replace hS := Lib.hid hS; replace hmm := Lib.hid hmm; replace ha := Lib.hid ha; replace hcn := Lib.hid hcn
      clear hfull
      go_wp2_with (fail)
      refine hO.mono ?_
      rintro e w3 ⟨A3, n3, c3, rfl, o3⟩
      have hz := hmm.out n3 o3.len.symm
      have ha3 := Lib.hid (ha.out.trans (o3.bel.mono ha.out.size))
      replace o3 := Lib.hid o3
      clear hO
      subst hz
      go_wp2_with (fail)
      refine (works_any w3).mono ?_
      rintro e w4 ⟨rfl, b4⟩
      have ha4 := Lib.hid (ha3.out.trans (b4.mono ha3.out.size))
      clear b4
      go_wp2_with (fail)
      go_ret
      exact ⟨rfl, ha4.out⟩
end Go.Proofs.Ythmkfbabacehnaa
