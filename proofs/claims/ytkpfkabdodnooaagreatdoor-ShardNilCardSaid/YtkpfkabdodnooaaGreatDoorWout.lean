/- ranges.Without, ranges.Inside. -/
import Derived.Test.YtkpfkabdodnooaaGreatDoorMeet
namespace Go.Proofs.YtkpfkabdodnooaaGreatDoor
open Go.RowKit Go.Shelf
set_option linter.unusedSimpArgs false
set_option linter.unusedVariables false
set_option linter.unusedSectionVars false
set_option maxRecDepth 10000
def woL (a b : Rg) : List Rg := if lessB a.1 b.1 then [(a.1, if cmpX a.2 b.1 < 0 then a.2 else b.1)] else []
def woR (a b : Rg) : List Rg := if cmpX b.2 a.2 < 0 then [(maxB a.1 b.2, a.2)] else []
def wout (a b : Rg) : List Rg := if okG a && okG b then woL a b ++ woR a b else []
theorem woL_len (a b : Rg) : (woL a b).length ≤ 1 := by unfold woL; split <;> simp
theorem woR_len (a b : Rg) : (woR a b).length ≤ 1 := by unfold woR; split <;> simp
theorem wout_len (a b : Rg) : (wout a b).length ≤ 2 := by
  unfold wout; split
  · rw [List.length_append]; have := woL_len a b; have := woR_len a b; omega
  · simp
def GOwn (base : Nat) (W : World) (A : Option Addr) (n c : Nat) (l : List Rg) : Prop := W.ownsRow base 25 2 (.slice A n c) n (flat encG l)
theorem GOwn.nil (base : Nat) (W : World) : GOwn base W none 0 0 [] := World.ownsRow_nil _ _ _ _
theorem GOwn.keep {base : Nat} {w w' : World} {A : Option Addr} {n c : Nat} {l : List Rg} (h : GOwn base w A n c l) (hb : Below w.heap.size w w') : GOwn base w' A n c l := by
  rcases h.2 with e | ⟨g, cp, cur, e1, e2, hh, r⟩
  · exact ⟨h.1, .inl e⟩
  · exact ⟨h.1, .inr ⟨g, cp, cur, e1, e2, (hb.block g (blkX hh)).trans hh, r⟩⟩
theorem GOwn.gs {base : Nat} {w : World} {A : Option Addr} {n c : Nat} {l : List Rg} (h : GOwn base w A n c l) (hl : l.length = n) : GS w A n l := SL.of_own encG_len h hl
theorem GOwn.app {base : Nat} {W : World} {A : Option Addr} {n c : Nat} {l : List Rg} (h : GOwn base W A n c l) (hb : base ≤ W.heap.size) {x : Rg} {g : Nat} (hg : W.heap[g]? = some (.cells #[.string x.1, .string x.2] 25 (0, 0))) (hn : n ≤ 100000) :
    ∃ A' c' W', (appSem #[37, 37] 37 #[.slice A n c, .slice (some ⟨g, 0, none⟩) 1 1]).run Tryz.prog W = .ok (.slice A' (n + 1) c') W' ∧ GOwn base W' A' (n + 1) c' (l ++ [x]) ∧ W.grownBy W' (rowOf A) ∧ (rowOf A' = rowOf A ∨ rowOf A' = some W.heap.size) := by
  obtain ⟨A', c', W', hrun, -, hown, hgr, hat⟩ := append_sl elemG encG_len encG_one (ty := 37) (d := 1) h hb (gs_one hg) (by omega) (by omega)
  exact ⟨A', c', W', hrun, hown, hgr, hat⟩
def Wout (w : World) (l : List Rg) (z : Int) (e : Ending) (w' : World) : Prop := ∃ A n c, e = .returned (.tuple #[.slice A n c, .int .i64 z]) ∧ l.length = n ∧ GOwn w.heap.size w' A n c l ∧ Below w.heap.size w w'

attribute [local go_sem ↓] hideAppend
set_option maxHeartbeats 16000000 in
theorem without_any (a1 a2 b1 b2 : ByteArray) (w : World) (ha : szG (a1, a2)) (hb : szG (b1, b2)) :
    Calls Tryz.prog 72 #[.agg #[.string a1, .string a2], .agg #[.string b1, .string b2]] w (Wout w (wout (a1, a2) (b1, b2)) (endsE [(a1, a2), (b1, b2)])) := by
  obtain ⟨W0, hW0⟩ : ∃ W, W = ((w.alloc (.cells #[.string a1, .string a2] 25)).alloc (.cells #[.string b1, .string b2] 25)).alloc (.cells #[.string a1, .string a2, .string b1, .string b2] 25) := ⟨_, rfl⟩
  have k0 : Below w.heap.size w W0 := by rw [hW0]; exact (((Below.refl _ w).alloc (Nat.le_refl _) _).alloc (by simp) _).alloc (by simp <;> omega) _
  have q0 : W0.heap[w.heap.size]? = some (.cells #[.string a1, .string a2] 25 (0, 0)) := by rw [hW0]; repeat (first | exact hpNewAt _ (by simp) | exact hpNew _ _ | refine (hpOld _ (by simp <;> omega)).trans ?_)
  have q1 : W0.heap[w.heap.size + 1]? = some (.cells #[.string b1, .string b2] 25 (0, 0)) := by rw [hW0]; repeat (first | exact hpNewAt _ (by simp) | exact hpNew _ _ | refine (hpOld _ (by simp <;> omega)).trans ?_)
  have q3 : W0.heap[w.heap.size + 1 + 1]? = some (.cells #[.string a1, .string a2, .string b1, .string b2] 25 (0, 0)) := by rw [hW0]; repeat (first | exact hpNewAt _ (by simp) | exact hpNew _ _ | refine (hpOld _ (by simp <;> omega)).trans ?_)
  have he := ends_many [(a1, a2), (b1, b2)] (some ⟨w.heap.size + 1 + 1, 0, none⟩) 2 2 W0 (gs_two q3) (by omega) (by intro x hx; simp at hx; rcases hx with rfl | rfl; exact ha; exact hb)
  have hE : endsE [(a1, a2), (b1, b2)] = if okG (a1, a2) && okG (b1, b2) then 0 else 2 := by unfold endsE; simp
  obtain ⟨l, hl⟩ : ∃ l, l = wout (a1, a2) (b1, b2) := ⟨_, rfl⟩
  rw [← hl]
  replace q0 := Lib.hid q0; replace q1 := Lib.hid q1; replace q3 := Lib.hid q3; replace k0 := Lib.hid k0
  replace ha := Lib.hid ha; replace hb := Lib.hid hb
  cases hok : (okG (a1, a2) && okG (b1, b2)) with
  | false =>
    rw [hok] at hE
    rw [hE] at he ⊢
    have hl0 : l = [] := by rw [hl]; unfold wout; rw [hok]; rfl
    replace hE := Lib.hid hE; replace hok := Lib.hid hok; replace hl := Lib.hid hl; replace hl0 := Lib.hid hl0
    go_enter Tryz.func72, Tryz.ntmps72
    go_wp2_with (fail)
    rw [← hW0]
    replace hW0 := Lib.hid hW0
    refine he.mono ?_
    rintro e w1 ⟨v, rfl, -, c1⟩
    have k1 := Lib.hid (k0.out.trans (c1.mono k0.out.size))
    clear c1 he
    go_wp2_with (fail)
    refine bodyPost_ret (results_tmp2 rfl _ _ _) rfl ?_
    exact ⟨none, 0, 0, rfl, by rw [hl0.out]; rfl, by rw [hl0.out]; exact GOwn.nil _ _, k1.out⟩
  | true =>
    have hlw : l = woL (a1, a2) (b1, b2) ++ woR (a1, a2) (b1, b2) := by rw [hl]; unfold wout; rw [hok]; rfl
    rw [hok] at hE
    rw [hE] at he ⊢
    replace hE := Lib.hid hE; replace hl := Lib.hid hl
    have hok' : [(a1, a2), (b1, b2)].all okG = true := by simpa using hok
    replace hok := Lib.hid hok; replace hok' := Lib.hid hok'
    have h1 := fun W => ends1_any a2 b1 W
    have h2 := fun W => ends1_any b2 a2 W
    have hmx := fun W ts t => max_str (P := Tryz.prog) W ts t a1 b2
    cases hlt : lessB a1 b1 with
    | false =>
      have hlf : woL (a1, a2) (b1, b2) = [] := by unfold woL; rw [if_neg (by simp [hlt])]
      rw [hlf, List.nil_append] at hlw
      have hq : Op.bytesLess a1.toList b1.toList = false := hlt
      replace hlf := Lib.hid hlf; replace hlw := Lib.hid hlw; replace hlt := Lib.hid hlt
      go_enter Tryz.func72, Tryz.ntmps72
      go_wp2_with (fail)
      rw [← hW0]
      replace hW0 := Lib.hid hW0
      refine he.mono ?_
      rintro e w1 ⟨v, rfl, hv, c1⟩
      obtain rfl := hv hok'.out
      have k1 := Lib.hid (k0.out.trans (c1.mono k0.out.size))
      have q0' := Lib.hid ((c1.block _ (blkX q0.out)).trans q0.out)
      have q1' := Lib.hid ((c1.block _ (blkX q1.out)).trans q1.out)
      clear c1 he
      have x0 := blkX q0'.out; have x1 := blkX q1'.out; have r0 := blkC q0'.out 0; have r1 := blkC q0'.out 1; have t0 := blkC q1'.out 0; have t1 := blkC q1'.out 1
      simp only [List.getElem?_toArray, List.getElem?_cons_zero, List.getElem?_cons_succ] at r0 r1 t0 t1
      go_wp2_with (fail)
      have ho0 := Lib.hid (GOwn.nil w.heap.size w1)
      refine (h2 _).mono ?_
      rintro e v9 ⟨rfl, rfl⟩
      by_cases hz : cmpX b2 a2 < 0
      · have hlr : l = [] ++ [(maxB a1 b2, a2)] := by rw [hlw.out]; unfold woR; simp [hz]
        replace hlr := Lib.hid hlr
        obtain ⟨Zr, hZr⟩ : ∃ Z, Z = v9.alloc (.cells #[.string (maxB a1 b2), .string a2] 25) := ⟨_, rfl⟩
        have bZr : Below v9.heap.size v9 Zr := by rw [hZr]; exact (Below.refl _ _).alloc (Nat.le_refl _) _
        have qZr : Zr.heap[v9.heap.size]? = some (.cells #[.string (maxB a1 b2), .string a2] 25 (0, 0)) := by rw [hZr]; exact hpNew _ _
        obtain ⟨A2, c2, V, hrun, ho2, hgr, hat⟩ := GOwn.app (x := (maxB a1 b2, a2)) (ho0.out.keep bZr) (Nat.le_trans k1.out.size bZr.size) qZr (by omega)
        have kV := (k1.out.trans (bZr.mono k1.out.size)).grown hgr (Nat.le_trans k1.out.size bZr.size) (fun g e => (own_row (ho0.out.keep bZr) g e).1)
        rw [hZr] at hrun
        replace kV := Lib.hid kV; replace ho2 := Lib.hid ho2; replace qZr := Lib.hid qZr; replace bZr := Lib.hid bZr; replace hZr := Lib.hid hZr
        clear hgr hat
        go_wp2_with (fail)
        refine bodyPost_ret (results_tmp2 rfl _ _ _) rfl ?_
        exact ⟨A2, _, c2, rfl, by rw [hlr.out]; rfl, by rw [hlr.out]; exact ho2.out, kV.out⟩
      · have hlr : l = [] := by rw [hlw.out]; unfold woR; simp [hz]
        replace hlr := Lib.hid hlr
        go_wp2_with (fail)
        refine bodyPost_ret (results_tmp2 rfl _ _ _) rfl ?_
        exact ⟨none, _, 0, rfl, by rw [hlr.out]; rfl, by rw [hlr.out]; exact ho0.out, k1.out⟩
    | true =>
      have hq : Op.bytesLess a1.toList b1.toList = true := hlt
      by_cases hy : cmpX a2 b1 < 0
      · have hlf : woL (a1, a2) (b1, b2) = [(a1, a2)] := by unfold woL; rw [if_pos hlt, if_pos hy]
        rw [hlf] at hlw
        replace hlf := Lib.hid hlf; replace hlw := Lib.hid hlw; replace hlt := Lib.hid hlt
        go_enter Tryz.func72, Tryz.ntmps72
        go_wp2_with (fail)
        rw [← hW0]
        replace hW0 := Lib.hid hW0
        refine he.mono ?_
        rintro e w1 ⟨v, rfl, hv, c1⟩
        obtain rfl := hv hok'.out
        have k1 := Lib.hid (k0.out.trans (c1.mono k0.out.size))
        have q0' := Lib.hid ((c1.block _ (blkX q0.out)).trans q0.out)
        have q1' := Lib.hid ((c1.block _ (blkX q1.out)).trans q1.out)
        clear c1 he
        have x0 := blkX q0'.out; have x1 := blkX q1'.out; have r0 := blkC q0'.out 0; have r1 := blkC q0'.out 1; have t0 := blkC q1'.out 0; have t1 := blkC q1'.out 1
        simp only [List.getElem?_toArray, List.getElem?_cons_zero, List.getElem?_cons_succ] at r0 r1 t0 t1
        go_wp2_with (fail)
        refine (h1 _).mono ?_
        rintro e u ⟨rfl, rfl⟩
        obtain ⟨Zl, hZl⟩ : ∃ Z, Z = w1.alloc (.cells #[.string a1, .string a2] 25) := ⟨_, rfl⟩
        have bZl : Below w1.heap.size w1 Zl := by rw [hZl]; exact (Below.refl _ _).alloc (Nat.le_refl _) _
        have qZl : Zl.heap[w1.heap.size]? = some (.cells #[.string a1, .string a2] 25 (0, 0)) := by rw [hZl]; exact hpNew _ _
        obtain ⟨Zm, hZm⟩ : ∃ Z, Z = Zl.alloc (.cells #[.string a1, .string a2] 25) := ⟨_, rfl⟩
        have bZm : Below Zl.heap.size Zl Zm := by rw [hZm]; exact (Below.refl _ _).alloc (Nat.le_refl _) _
        have qZm : Zm.heap[Zl.heap.size]? = some (.cells #[.string a1, .string a2] 25 (0, 0)) := by rw [hZm]; exact hpNew _ _
        obtain ⟨A1, c1, V, hrun, ho1, hgr, hat⟩ := GOwn.app (x := (a1, a2)) ((GOwn.nil w.heap.size Zm)) (Nat.le_trans (Nat.le_trans k1.out.size bZl.size) bZm.size) qZm (by omega)
        have kM := k1.out.trans ((bZl.trans (bZm.mono bZl.size)).mono k1.out.size)
        have kV := kM.grown hgr kM.size (fun g e => by cases e)
        have z0 : Zm.heap[w.heap.size]? = _ := ((bZl.trans (bZm.mono bZl.size)).block _ (blkX q0'.out)).trans q0'.out
        have z1 : Zm.heap[w.heap.size + 1]? = _ := ((bZl.trans (bZm.mono bZl.size)).block _ (blkX q1'.out)).trans q1'.out
        have q0v := (hgr.block _ (blkX z0) (by simp [rowOf])).trans z0
        have q1v := (hgr.block _ (blkX z1) (by simp [rowOf])).trans z1
        rw [hZm, hZl] at hrun
        simp only [World.size_alloc] at hrun
        replace kV := Lib.hid kV; replace ho1 := Lib.hid ho1; replace hZl := Lib.hid hZl; replace hZm := Lib.hid hZm; replace kM := Lib.hid kM; replace qZl := Lib.hid qZl; replace qZm := Lib.hid qZm; replace bZl := Lib.hid bZl; replace bZm := Lib.hid bZm; replace z0 := Lib.hid z0; replace z1 := Lib.hid z1; replace q0v := Lib.hid q0v; replace q1v := Lib.hid q1v
        clear hgr hat
        have xv0 := blkX q0v.out; have xv1 := blkX q1v.out; have rv0 := blkC q0v.out 0; have rv1 := blkC q0v.out 1; have tv0 := blkC q1v.out 0; have tv1 := blkC q1v.out 1
        simp only [List.getElem?_toArray, List.getElem?_cons_zero, List.getElem?_cons_succ] at rv0 rv1 tv0 tv1
        go_wp2_with (fail)
        refine (h2 _).mono ?_
        rintro e v9 ⟨rfl, rfl⟩
        by_cases hz : cmpX b2 a2 < 0
        · have hlr : l = [(a1, a2)] ++ [(maxB a1 b2, a2)] := by rw [hlw.out]; unfold woR; simp [hz]
          replace hlr := Lib.hid hlr
          obtain ⟨Zr, hZr⟩ : ∃ Z, Z = v9.alloc (.cells #[.string (maxB a1 b2), .string a2] 25) := ⟨_, rfl⟩
          have bZr : Below v9.heap.size v9 Zr := by rw [hZr]; exact (Below.refl _ _).alloc (Nat.le_refl _) _
          have qZr : Zr.heap[v9.heap.size]? = some (.cells #[.string (maxB a1 b2), .string a2] 25 (0, 0)) := by rw [hZr]; exact hpNew _ _
          obtain ⟨A2, c2, V, hrun, ho2, hgr, hat⟩ := GOwn.app (x := (maxB a1 b2, a2)) (ho1.out.keep bZr) (Nat.le_trans kV.out.size bZr.size) qZr (by omega)
          have kV := (kV.out.trans (bZr.mono kV.out.size)).grown hgr (Nat.le_trans kV.out.size bZr.size) (fun g e => (own_row (ho1.out.keep bZr) g e).1)
          rw [hZr] at hrun
          replace kV := Lib.hid kV; replace ho2 := Lib.hid ho2; replace qZr := Lib.hid qZr; replace bZr := Lib.hid bZr; replace hZr := Lib.hid hZr
          clear hgr hat
          go_wp2_with (fail)
          refine bodyPost_ret (results_tmp2 rfl _ _ _) rfl ?_
          exact ⟨A2, _, c2, rfl, by rw [hlr.out]; rfl, by rw [hlr.out]; exact ho2.out, kV.out⟩
        · have hlr : l = [(a1, a2)] := by rw [hlw.out]; unfold woR; simp [hz]
          replace hlr := Lib.hid hlr
          go_wp2_with (fail)
          refine bodyPost_ret (results_tmp2 rfl _ _ _) rfl ?_
          exact ⟨A1, _, c1, rfl, by rw [hlr.out]; rfl, by rw [hlr.out]; exact ho1.out, kV.out⟩
      · have hlf : woL (a1, a2) (b1, b2) = [(a1, b1)] := by unfold woL; rw [if_pos hlt, if_neg hy]
        rw [hlf] at hlw
        replace hlf := Lib.hid hlf; replace hlw := Lib.hid hlw; replace hlt := Lib.hid hlt
        go_enter Tryz.func72, Tryz.ntmps72
        go_wp2_with (fail)
        rw [← hW0]
        replace hW0 := Lib.hid hW0
        refine he.mono ?_
        rintro e w1 ⟨v, rfl, hv, c1⟩
        obtain rfl := hv hok'.out
        have k1 := Lib.hid (k0.out.trans (c1.mono k0.out.size))
        have q0' := Lib.hid ((c1.block _ (blkX q0.out)).trans q0.out)
        have q1' := Lib.hid ((c1.block _ (blkX q1.out)).trans q1.out)
        clear c1 he
        have x0 := blkX q0'.out; have x1 := blkX q1'.out; have r0 := blkC q0'.out 0; have r1 := blkC q0'.out 1; have t0 := blkC q1'.out 0; have t1 := blkC q1'.out 1
        simp only [List.getElem?_toArray, List.getElem?_cons_zero, List.getElem?_cons_succ] at r0 r1 t0 t1
        go_wp2_with (fail)
        refine (h1 _).mono ?_
        rintro e u ⟨rfl, rfl⟩
        obtain ⟨Zl, hZl⟩ : ∃ Z, Z = w1.alloc (.cells #[.string a1, .string b1] 25) := ⟨_, rfl⟩
        have bZl : Below w1.heap.size w1 Zl := by rw [hZl]; exact (Below.refl _ _).alloc (Nat.le_refl _) _
        have qZl : Zl.heap[w1.heap.size]? = some (.cells #[.string a1, .string b1] 25 (0, 0)) := by rw [hZl]; exact hpNew _ _
        obtain ⟨Zm, hZm⟩ : ∃ Z, Z = Zl.alloc (.cells #[.string a1, .string b1] 25) := ⟨_, rfl⟩
        have bZm : Below Zl.heap.size Zl Zm := by rw [hZm]; exact (Below.refl _ _).alloc (Nat.le_refl _) _
        have qZm : Zm.heap[Zl.heap.size]? = some (.cells #[.string a1, .string b1] 25 (0, 0)) := by rw [hZm]; exact hpNew _ _
        obtain ⟨A1, c1, V, hrun, ho1, hgr, hat⟩ := GOwn.app (x := (a1, b1)) ((GOwn.nil w.heap.size Zm)) (Nat.le_trans (Nat.le_trans k1.out.size bZl.size) bZm.size) qZm (by omega)
        have kM := k1.out.trans ((bZl.trans (bZm.mono bZl.size)).mono k1.out.size)
        have kV := kM.grown hgr kM.size (fun g e => by cases e)
        have z0 : Zm.heap[w.heap.size]? = _ := ((bZl.trans (bZm.mono bZl.size)).block _ (blkX q0'.out)).trans q0'.out
        have z1 : Zm.heap[w.heap.size + 1]? = _ := ((bZl.trans (bZm.mono bZl.size)).block _ (blkX q1'.out)).trans q1'.out
        have q0v := (hgr.block _ (blkX z0) (by simp [rowOf])).trans z0
        have q1v := (hgr.block _ (blkX z1) (by simp [rowOf])).trans z1
        rw [hZm, hZl] at hrun
        simp only [World.size_alloc] at hrun
        replace kV := Lib.hid kV; replace ho1 := Lib.hid ho1; replace hZl := Lib.hid hZl; replace hZm := Lib.hid hZm; replace kM := Lib.hid kM; replace qZl := Lib.hid qZl; replace qZm := Lib.hid qZm; replace bZl := Lib.hid bZl; replace bZm := Lib.hid bZm; replace z0 := Lib.hid z0; replace z1 := Lib.hid z1; replace q0v := Lib.hid q0v; replace q1v := Lib.hid q1v
        clear hgr hat
        have xv0 := blkX q0v.out; have xv1 := blkX q1v.out; have rv0 := blkC q0v.out 0; have rv1 := blkC q0v.out 1; have tv0 := blkC q1v.out 0; have tv1 := blkC q1v.out 1
        simp only [List.getElem?_toArray, List.getElem?_cons_zero, List.getElem?_cons_succ] at rv0 rv1 tv0 tv1
        go_wp2_with (fail)
        refine (h2 _).mono ?_
        rintro e v9 ⟨rfl, rfl⟩
        by_cases hz : cmpX b2 a2 < 0
        · have hlr : l = [(a1, b1)] ++ [(maxB a1 b2, a2)] := by rw [hlw.out]; unfold woR; simp [hz]
          replace hlr := Lib.hid hlr
          obtain ⟨Zr, hZr⟩ : ∃ Z, Z = v9.alloc (.cells #[.string (maxB a1 b2), .string a2] 25) := ⟨_, rfl⟩
          have bZr : Below v9.heap.size v9 Zr := by rw [hZr]; exact (Below.refl _ _).alloc (Nat.le_refl _) _
          have qZr : Zr.heap[v9.heap.size]? = some (.cells #[.string (maxB a1 b2), .string a2] 25 (0, 0)) := by rw [hZr]; exact hpNew _ _
          obtain ⟨A2, c2, V, hrun, ho2, hgr, hat⟩ := GOwn.app (x := (maxB a1 b2, a2)) (ho1.out.keep bZr) (Nat.le_trans kV.out.size bZr.size) qZr (by omega)
          have kV := (kV.out.trans (bZr.mono kV.out.size)).grown hgr (Nat.le_trans kV.out.size bZr.size) (fun g e => (own_row (ho1.out.keep bZr) g e).1)
          rw [hZr] at hrun
          replace kV := Lib.hid kV; replace ho2 := Lib.hid ho2; replace qZr := Lib.hid qZr; replace bZr := Lib.hid bZr; replace hZr := Lib.hid hZr
          clear hgr hat
          go_wp2_with (fail)
          refine bodyPost_ret (results_tmp2 rfl _ _ _) rfl ?_
          exact ⟨A2, _, c2, rfl, by rw [hlr.out]; rfl, by rw [hlr.out]; exact ho2.out, kV.out⟩
        · have hlr : l = [(a1, b1)] := by rw [hlw.out]; unfold woR; simp [hz]
          replace hlr := Lib.hid hlr
          go_wp2_with (fail)
          refine bodyPost_ret (results_tmp2 rfl _ _ _) rfl ?_
          exact ⟨A1, _, c1, rfl, by rw [hlr.out]; rfl, by rw [hlr.out]; exact ho1.out, kV.out⟩

def insB (a b : Rg) : Bool := okG a && okG b && (wout a b).isEmpty
set_option maxHeartbeats 8000000 in
theorem inside_any (a1 a2 b1 b2 : ByteArray) (w : World) (ha : szG (a1, a2)) (hb : szG (b1, b2)) :
    Calls Tryz.prog 70 #[.agg #[.string a1, .string a2], .agg #[.string b1, .string b2]] w fun e w' => ∃ z, e = .returned (.tuple #[.bool (insB (a1, a2) (b1, b2)), .int .i64 z]) ∧ (insB (a1, a2) (b1, b2) = true → z = 0) ∧ Below w.heap.size w w' := by
  obtain ⟨W0, hW0⟩ : ∃ W, W = (w.alloc (.cells #[.string a1, .string a2] 25)).alloc (.cells #[.string b1, .string b2] 25) := ⟨_, rfl⟩
  have k0 : Below w.heap.size w W0 := by rw [hW0]; exact ((Below.refl _ w).alloc (Nat.le_refl _) _).alloc (by simp) _
  have hw := without_any a1 a2 b1 b2 W0 ha hb
  have hE : endsE [(a1, a2), (b1, b2)] = if okG (a1, a2) && okG (b1, b2) then 0 else 2 := by unfold endsE; simp
  obtain ⟨r, hr⟩ : ∃ r, r = insB (a1, a2) (b1, b2) := ⟨_, rfl⟩
  rw [← hr]
  replace k0 := Lib.hid k0; replace ha := Lib.hid ha; replace hb := Lib.hid hb
  cases hok : (okG (a1, a2) && okG (b1, b2)) with
  | false =>
    have hr0 : r = false := by rw [hr]; unfold insB; rw [hok]; rfl
    rw [hok] at hE
    rw [hE] at hw
    replace hE := Lib.hid hE; replace hok := Lib.hid hok; replace hr := Lib.hid hr
    subst hr0
    go_enter Tryz.func70, Tryz.ntmps70
    go_wp2_with (fail)
    rw [← hW0]
    replace hW0 := Lib.hid hW0
    refine hw.mono ?_
    rintro e w1 ⟨A, n, c, rfl, hl, ho, b1⟩
    have k1 := Lib.hid (k0.out.trans (b1.mono k0.out.size))
    replace hl := Lib.hid hl; replace ho := Lib.hid ho
    clear b1 hw
    go_wp2_with (fail)
    refine bodyPost_ret (results_tmp2 rfl _ _ _) rfl ?_
    refine ⟨2, ?_, ?_, k1.out⟩
    · rfl
    · intro h; cases h
  | true =>
    have hr1 : r = (wout (a1, a2) (b1, b2)).isEmpty := by rw [hr]; unfold insB; rw [hok]; rfl
    rw [hok] at hE
    rw [hE] at hw
    replace hE := Lib.hid hE; replace hok := Lib.hid hok; replace hr := Lib.hid hr; replace hr1 := Lib.hid hr1
    go_enter Tryz.func70, Tryz.ntmps70
    go_wp2_with (fail)
    rw [← hW0]
    replace hW0 := Lib.hid hW0
    refine hw.mono ?_
    rintro e w1 ⟨A, n, c, rfl, hl, ho, b1⟩
    have k1 := Lib.hid (k0.out.trans (b1.mono k0.out.size))
    replace ho := Lib.hid ho
    clear b1 hw
    by_cases hn : n = 0
    · subst hn
      have hr2 : r = true := by rw [hr1.out, List.isEmpty_iff]; exact List.eq_nil_of_length_eq_zero hl
      subst hr2
      replace hl := Lib.hid hl
      go_wp2_with (fail)
      refine bodyPost_ret (results_tmp2 rfl _ _ _) rfl ?_
      refine ⟨0, ?_, ?_, k1.out⟩
      · rfl
      · first | rfl | (intro _; rfl)
    · have hr2 : r = false := by
        rw [hr1.out, Bool.eq_false_iff, Ne, List.isEmpty_iff]
        intro q; rw [q] at hl; exact hn hl.symm
      subst hr2
      have hni : ((n : Int) == 0) = false := by simp; omega
      replace hl := Lib.hid hl
      go_wp2_with (fail)
      refine bodyPost_ret (results_tmp2 rfl _ _ _) rfl ?_
      refine ⟨0, ?_, ?_, k1.out⟩
      · rfl
      · intro h; cases h
end Go.Proofs.YtkpfkabdodnooaaGreatDoor
