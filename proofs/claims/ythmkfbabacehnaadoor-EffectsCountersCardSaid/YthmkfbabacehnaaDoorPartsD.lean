/- What effects add to a key, one by one: the program's. -/
import Derived.Test.YthmkfbabacehnaaDoorRChkD
import Derived.Test.YthmkfbabacehnaaDoorWhole
namespace Go.Proofs.YthmkfbabacehnaaDoor
open Go.RowKit Go.Shelf
set_option linter.unusedSimpArgs false
set_option linter.unusedVariables false
set_option linter.unusedSectionVars false
set_option maxRecDepth 10000
attribute [local go_sem ↓] hideAppend
structure OwnN (w : World) (A : Option Addr) (n c : Nat) (l : List Int) (W : World) : Prop where
  bel : Below w.heap.size w W
  own : W.ownsRow w.heap.size 2 1 (.slice A n c) n (flat encN l)
  len : l.length = n
  cap : n ≤ c
theorem OwnN.ns {w W : World} {A : Option Addr} {n c : Nat} {l : List Int} (h : OwnN w A n c l W) : NS W A n l := SL.of_own encN_len h.own h.len
theorem OwnN.keep {w W W' : World} {A : Option Addr} {n c : Nat} {l : List Int} (h : OwnN w A n c l W) (hb : Below W.heap.size W W') : OwnN w A n c l W' :=
  ⟨h.bel.trans (hb.mono h.bel.size), ownKeep h.own hb, h.len, h.cap⟩
theorem OwnN.nil (w : World) : OwnN w none 0 0 [] w := ⟨Below.refl _ _, World.ownsRow_nil _ _ _ _, rfl, by omega⟩
theorem ns_one (W : World) (x : Int) : NS (W.alloc (.cells #[.int .i64 x] 2)) (some ⟨W.heap.size, 0, none⟩) 1 [x] := by
  refine ⟨rfl, fun _ => ⟨_, _, rfl, by simp, fun i y hy j u hu => ?_⟩⟩
  have hi : i = 0 := by have := (List.getElem?_eq_some_iff.1 hy).1; simp at this; exact this
  subst hi
  simp only [List.getElem?_cons_zero, Option.some.injEq] at hy
  subst hy
  have := blkC (hpNew W (.cells #[.int .i64 x] 2)) (0 + 0 * 1 + j)
  rw [this]
  simpa [encN] using hu
theorem OwnN.push {w W : World} {A : Option Addr} {n c : Nat} {l : List Int} (h : OwnN w A n c l W) (hn : n ≤ 1000000) (x : Int) (d : Nat) :
    ∃ A' c' W', (appSem #[52, 52] 52 #[.slice A n c, .slice (some ⟨W.heap.size, 0, none⟩) 1 d]).run Tryd.prog (W.alloc (.cells #[.int .i64 x] 2)) = .ok (.slice A' (n + 1) c') W' ∧ OwnN w A' (n + 1) c' (l ++ [x]) W' := by
  have hb0 := (Below.refl W.heap.size W).alloc (Nat.le_refl _) (.cells #[.int .i64 x] 2)
  have h' := h.keep hb0
  obtain ⟨A', c', w1, hrun, hcap, hown, hgr, hat⟩ := append_sl elemN encN_len encN_one (ty := 52) (d := d) h'.own h'.bel.size (ns_one W x) (by omega) (by omega)
  exact ⟨A', c', w1, hrun, h'.bel.trans (below_of_grown hgr h'.bel.size fun g hg => (own_row h'.own g hg).1), hown, by simp [h.len], hcap⟩
theorem OwnN.push3 {w W : World} {A : Option Addr} {n c : Nat} {l : List Int} (h : OwnN w A n c l W) (hn : n ≤ 1000000) (x : Int) (d : Nat) :
    ∃ A' c' W', (appSem #[52, 52] 52 #[.slice A n c, .slice (some ⟨W.heap.size, 0, none⟩) 1 d]).run Tryd.prog (W.alloc (.cells #[.int .i64 x] 2)) = .ok (.slice A' (n + 1) c') W' ∧ OwnN w A' (n + 1) c' (l ++ [x]) W' ∧ (∀ (g : Nat) (cs : Array Value) (T : TypeId) (f : Nat × Nat), W.heap[g]? = some (Obj.cells cs T f) → T ≠ 2 → W'.heap[g]? = some (Obj.cells cs T f)) := by
  have hb0 := (Below.refl W.heap.size W).alloc (Nat.le_refl _) (.cells #[.int .i64 x] 2)
  have h' := h.keep hb0
  obtain ⟨A', c', w1, hrun, hcap, hown, hgr, hat⟩ := append_sl elemN encN_len encN_one (ty := 52) (d := d) h'.own h'.bel.size (ns_one W x) (by omega) (by omega)
  refine ⟨A', c', w1, hrun, ⟨h'.bel.trans (below_of_grown hgr h'.bel.size fun g hg => (own_row h'.own g hg).1), hown, by simp [h.len], hcap⟩, fun g cs T f hg hT => ?_⟩
  have hg2 := (hb0.block g (blkX hg)).trans hg
  refine (hgr.block g (blkX hg2) fun e => ?_).trans hg2
  rcases h'.own.2 with ⟨e1, _⟩ | ⟨g', cp, cur, e1, _, hh, _⟩
  · injection e1 with e1; rw [e1] at e; cases e
  · injection e1 with e1
    rw [e1] at e
    injection e with e
    subst e
    rw [hg2] at hh
    injection hh with hh
    injection hh with _ hh
    exact hT hh
/-- A step that an effect names, its phase, as numbers. -/
theorem okA_nat {n : Nat} {x : Ef} (h : okA n x = true) : ∃ (q p : Nat), x.2.1 = (q : Int) ∧ q < n ∧ x.2.2 = (p : Int) ∧ 1 ≤ p ∧ p ≤ 3 := by
  obtain ⟨h1, h2⟩ := (okA_iff2 n x).1 h
  rw [okE_iff] at h1
  exact ⟨x.2.1.toNat, x.2.2.toNat, by omega, by omega, by omega, by omega, by omega⟩
theorem part1_at {ss : List St} {key : ByteArray} {sg : Int → Int} {sign : Int} {a : Int} {q p : Nat} {s : St} (h : ss[q]? = some s) :
    part1 ss key sg sign (a, (q : Int), (p : Int)) = if decide (s.1 = key) && (decide (sign = 0) || decide (0 < s.2) == decide (0 < sign)) then [sg p * s.2] else [] := by
  unfold part1
  simp only [Int.toNat_natCast, h]
theorem mul_in {g x : Int} (hg : g = 0 ∨ g = 1 ∨ g = -1) (hx : okV x = true) : IntKind.i64.wrap (g * x) = g * x ∧ -1152921504606846976 ≤ g * x ∧ g * x ≤ 1152921504606846976 := by
  rw [okV_iff] at hx
  have h : -1152921504606846976 ≤ g * x ∧ g * x ≤ 1152921504606846976 := by rcases hg with rfl | rfl | rfl <;> omega
  refine ⟨?_, h⟩
  generalize g * x = y at *
  simp [IntKind.wrap, IntKind.signed, IntKind.bits]; omega
set_option maxHeartbeats 8000000 in
theorem parts_any (nm : ByteArray) (r dl : Int) (A : Option Addr) (n c : Nat) (ss : List St) (B : Option Addr) (m d : Nat) (l : List Ef) (key : ByteArray) (sg : Int → Int) (g0 g1 g2 g3 sign : Int) (w : World)
    (h : SS w A n ss) (hss : stepsOK ss = true) (hn : n ≤ 140737488355328) (hE : ES w B m l) (hm : m ≤ 100000) (hok : ∀ x ∈ l, okA n x = true) (h1 : g1 = sg 1) (h2 : g2 = sg 2) (h3 : g3 = sg 3) (hsg : ∀ p, sg p = 0 ∨ sg p = 1 ∨ sg p = -1) :
    Calls Tryd.prog 20 #[.agg #[.string nm, .int .i64 r, .int .i64 dl, .slice A n c], .slice B m d, .string key, .agg #[.int .i64 g0, .int .i64 g1, .int .i64 g2, .int .i64 g3], .int .i64 sign] w fun e w' => ∃ A' n' c', e = .returned (.slice A' n' c') ∧ OwnN w A' n' c' (partsL ss key sg sign l) w' := by
  have hl := h.1
  have hel := hE.1
  obtain ⟨W0, hW0⟩ : ∃ W0, W0 = (w.alloc (.cells #[.string nm, .int .i64 r, .int .i64 dl, .slice A n c] 24)).alloc (.cells #[.int .i64 g0, .int .i64 g1, .int .i64 g2, .int .i64 g3] 54) := ⟨_, rfl⟩
  have kb : Below w.heap.size w W0 := by rw [hW0]; exact ((Below.refl _ _).alloc (Nat.le_refl _) _).alloc (by simp) _
  have b0 : W0.heap[w.heap.size]? = some (.cells #[.string nm, .int .i64 r, .int .i64 dl, .slice A n c] 24) := by rw [hW0, hpOld _ (by simp)]; exact hpNew w _
  have b1 : W0.heap[w.heap.size + 1]? = some (.cells #[.int .i64 g0, .int .i64 g1, .int .i64 g2, .int .i64 g3] 54) := by
    have := hpNew (w.alloc (.cells #[.string nm, .int .i64 r, .int .i64 dl, .slice A n c] 24)) (.cells #[.int .i64 g0, .int .i64 g1, .int .i64 g2, .int .i64 g3] 54)
    rw [hW0]; simpa using this
  have hS0 := SL.keep h kb
  have hE0 := SL.keep hE kb
  have gsg : ∀ p : Nat, 1 ≤ p → p ≤ 3 → W0.cell? ⟨w.heap.size + 1, p, none⟩ = some (.int .i64 (sg p)) := fun p q1 q2 => by
    rw [blkC b1]
    rcases (by omega : p = 1 ∨ p = 2 ∨ p = 3) with rfl | rfl | rfl
    · simp [h1]
    · simp [h2]
    · simp [h3]
  have d3 : W0.cell? ⟨w.heap.size, 3, none⟩ = some (.slice A n c) := by rw [blkC b0]; rfl
  have lt0 := blkX b0
  have lt1 := blkX b1
  clear h1 h2 h3
  replace h := Lib.hid h; replace hE := Lib.hid hE; replace hl := Lib.hid hl; replace hel := Lib.hid hel; replace kb := Lib.hid kb; replace b0 := Lib.hid b0; replace b1 := Lib.hid b1; replace hS0 := Lib.hid hS0; replace hE0 := Lib.hid hE0; replace gsg := Lib.hid gsg; replace hok := Lib.hid hok; replace hss := Lib.hid hss; replace hsg := Lib.hid hsg; replace hW0 := Lib.hid hW0; replace d3 := Lib.hid d3
  go_enter Tryd.func20, Tryd.ntmps20
  go_wp2_with (fail)
  go_loopw [11, 17] (fun v i wr => ∃ (k n' : Nat) (A' : Option Addr) (c' : Nat), k ≤ m ∧ i = .int .i64 k ∧ v = .slice A' n' c' ∧ OwnN W0 A' n' c' (partsL ss key sg sign (l.take k)) wr) (fun _ i _ => m - (intOf i).toNat)
  case atStart => exact ⟨0, 0, none, 0, by omega, rfl, rfl, by rw [hW0.out]; exact OwnN.nil _⟩
  case round =>
    revert wr
    intro W1 hrel
    obtain ⟨k, n', A', c', hk, rfl, rfl, hO⟩ := hrel
    have hpl := parts_len ss key sg sign (l.take k)
    have hn' : n' ≤ 1000000 := by rw [hO.len, List.length_take] at hpl; omega
    by_cases hlt : k < m
    · obtain ⟨b, o, ⟨x0, x1, x2'⟩, rfl, hbl, hx, e0, e1, e2⟩ := ES.at_ (SL.keep hE0.out hO.bel) hlt
      obtain ⟨q, p, hq1, hq, hp1, hp, hp3⟩ := okA_nat (hok.out _ (List.mem_of_getElem? hx))
      simp only at hq1 hp1 e0 e1 e2
      subst hq1 hp1
      obtain ⟨sb, so, ⟨sk, sd⟩, hA, hsb, hs, sc0, sc1⟩ := SS.at_ (SL.keep hS0.out hO.bel) hq
      subst hA
      simp only at sc0 sc1
      have hsd := (stepsOK_at hss.out hs).2.1
      have hpt := parts_take (ss := ss) (key := key) (sg := sg) (sign := sign) hx
      rw [part1_at hs] at hpt
      obtain ⟨y, hy⟩ : ∃ y, y = sg p * sd := ⟨_, rfl⟩
      obtain ⟨hw1, hw2, hw3⟩ := mul_in (hsg.out p) hsd
      simp only at hpt
      rw [← hy] at hpt hw1 hw2 hw3
      have hmul : sg p * sd = y := hy.symm
      simp only at hsd
      have j0 : (0 : Int) ≤ k := by omega
      have j1 : (k : Int) < m := by omega
      have q0 : (0 : Int) ≤ q := by omega
      have q1 : (q : Int) < n := by omega
      have p0 : (0 : Int) ≤ p := by omega
      have p1 : (p : Int) < 4 := by omega
      have gd := (hO.bel.cell (p := ⟨w.heap.size, 3, none⟩) lt0).trans d3.out
      have gp := (hO.bel.cell (p := ⟨w.heap.size + 1, p, none⟩) lt1).trans (gsg.out p hp hp3)
      have hO4 := hO.keep ((Below.refl _ W1).alloc (Nat.le_refl _) (.cells #[.int .i64 x0, .int .i64 q, .int .i64 p] 56))
      have hO5 := hO4.keep ((Below.refl _ _).alloc (Nat.le_refl _) (.cells #[.string sk, .int .i64 sd] 41))
      have hg0 := Nat.lt_of_lt_of_le lt0 hO.bel.size
      have x2 : ((W1.alloc (.cells #[.int .i64 x0, .int .i64 q, .int .i64 p] 56)).alloc (.cells #[.string sk, .int .i64 sd] 41)).cell? ⟨W1.heap.size, 2, none⟩ = some (.int .i64 p) := (((Below.refl _ (W1.alloc (.cells #[.int .i64 x0, .int .i64 q, .int .i64 p] 56))).alloc (Nat.le_refl _) (.cells #[.string sk, .int .i64 sd] 41)).cell (p := ⟨W1.heap.size, 2, none⟩) (by simp)).trans (blkC (hpNew W1 _) 2)
      have s1 : ((W1.alloc (.cells #[.int .i64 x0, .int .i64 q, .int .i64 p] 56)).alloc (.cells #[.string sk, .int .i64 sd] 41)).cell? ⟨W1.heap.size + 1, 1, none⟩ = some (.int .i64 sd) := by
        have := blkC (hpNew (W1.alloc (.cells #[.int .i64 x0, .int .i64 q, .int .i64 p] 56)) (.cells #[.string sk, .int .i64 sd] 41)) 1
        simp
      have kk : Below W1.heap.size W1 ((W1.alloc (.cells #[.int .i64 x0, .int .i64 q, .int .i64 p] 56)).alloc (.cells #[.string sk, .int .i64 sd] 41)) := ((Below.refl _ _).alloc (Nat.le_refl _) _).alloc (by simp) _
      have gp6 := (kk.cell (p := ⟨w.heap.size + 1, p, none⟩) (Nat.lt_of_lt_of_le lt1 hO.bel.size)).trans gp
      replace hO := Lib.hid hO; replace hO4 := Lib.hid hO4; replace hO5 := Lib.hid hO5; replace hx := Lib.hid hx; replace hs := Lib.hid hs; replace hsd := Lib.hid hsd; replace hy := Lib.hid hy; replace hpl := Lib.hid hpl; replace kk := Lib.hid kk; replace x2 := Lib.hid x2; replace s1 := Lib.hid s1; replace gp6 := Lib.hid gp6
      by_cases hkk : sk = key
      · have e1k : (sk.toList == key.toList) = true := by rw [str_eq]; exact decide_eq_true hkk
        have d1 : decide (sk = key) = true := decide_eq_true hkk
        rw [d1, Bool.true_and] at hpt
        replace hkk := Lib.hid hkk; replace d1 := Lib.hid d1
        by_cases hs0 : sign = 0
        · have z : (sign == 0) = true := by simp [hs0]
          have hL : partsL ss key sg sign (l.take (k + 1)) = partsL ss key sg sign (l.take k) ++ [y] := by rw [hpt]; simp [hs0]
          replace hL := Lib.hid hL; replace hs0 := Lib.hid hs0
          clear hpt
          go_wp2_with (fail)
          generalize ((W1.alloc (.cells #[.int .i64 x0, .int .i64 q, .int .i64 p] 56)).alloc (.cells #[.string sk, .int .i64 sd] 41)) = W6 at *
          have hO6 := hO5
          replace x2 := x2.out; replace s1 := s1.out; replace gp := gp6.out
          clear gp6 kk hO4 sc0 sc1 e0 e1 e2 gd
          refine wp_region_any (by kernel_rfl) ?_
          try (change wpAny _ _ _ _ _ _ _ (World.drew _))
          have hO := Lib.hid (hO6.out.keep ((Below.refl _ W6).drew))
          replace x2 : W6.drew.cell? _ = _ := x2
          replace s1 : W6.drew.cell? _ = _ := s1
          replace gp : W6.drew.cell? _ = _ := gp
          have hbW : True := trivial
          generalize W6.drew = V at *
          refine wpAny_take (i := 0) (v := ?_) rfl (by kernel_rfl) (by kernel_rfl) (by kernel_rfl) (fun _ _ _ h => h) (Or.inl ⟨by rfl, by intro w; go_simp; first | done | with_reducible rfl⟩) ?_
          simp only [List.getElem_toArray, List.getElem_cons_succ, List.getElem_cons_zero, Act.put, List.setIfInBounds_toArray, List.set_cons_zero, List.set_cons_succ]
          refine wpAny_take (i := 1) (v := ?_) rfl (by kernel_rfl) (by kernel_rfl) (by kernel_rfl) (fun _ _ _ h => h) (Or.inl ⟨by rfl, by intro w; go_simp; first | done | with_reducible rfl⟩) ?_
          simp only [List.getElem_toArray, List.getElem_cons_succ, List.getElem_cons_zero, Act.put, List.setIfInBounds_toArray, List.set_cons_zero, List.set_cons_succ]
          refine wpAny_take (i := 5) (v := ?_) rfl (by kernel_rfl) (by kernel_rfl) (by kernel_rfl) (fun _ _ _ h => h) (Or.inl ⟨by rfl, by intro w; go_simp; first | done | with_reducible rfl⟩) ?_
          simp only [List.getElem_toArray, List.getElem_cons_succ, List.getElem_cons_zero, Act.put, List.setIfInBounds_toArray, List.set_cons_zero, List.set_cons_succ]
          refine wpAny_ready (rs := [2, 6]) (by kernel_rfl) (by simp) ?_
          refine AllReady.cons rfl (fun K hK => ?_) ?_
          · have hK' := hK; clear hK; have hK := hK'; clear hK'
            go_simp
            refine hK _ _ ?_
            clear hK K
            refine wpAny_take (i := 3) (v := ?_) rfl (by kernel_rfl) (by kernel_rfl) (by kernel_rfl) (fun _ _ _ h => h) (Or.inl ⟨by rfl, by intro w; go_simp; first | done | with_reducible rfl⟩) ?_
            simp only [List.getElem_toArray, List.getElem_cons_succ, List.getElem_cons_zero, Act.put, List.setIfInBounds_toArray, List.set_cons_zero, List.set_cons_succ]
            refine wpAny_ready (rs := [4, 6]) (by kernel_rfl) (by simp) ?_
            refine AllReady.cons rfl (fun K hK => ?_) ?_
            · have hK' := hK; clear hK; have hK := hK'; clear hK'
              go_simp
              refine hK _ _ ?_
              clear hK K
              refine wpAny_ready (rs := [6]) (by kernel_rfl) (by simp) ?_
              refine AllReady.cons rfl (fun K hK => ?_) ?_
              · have hK' := hK; clear hK; have hK := hK'; clear hK'
                go_simp
                refine hK _ _ ?_
                clear hK K
                refine wpAny_take (i := 7) (v := ?_) rfl (by kernel_rfl) (by kernel_rfl) (by kernel_rfl) (fun _ _ _ h => h) (Or.inl ⟨by rfl, by intro w; go_simp; first | done | with_reducible rfl⟩) ?_
                simp only [List.getElem_toArray, List.getElem_cons_succ, List.getElem_cons_zero, Act.put, List.setIfInBounds_toArray, List.set_cons_zero, List.set_cons_succ]
                refine wpAny_ready (rs := [8]) (by kernel_rfl) (by simp) ?_
                refine AllReady.cons rfl (fun K hK => ?_) ?_
                · have hK' := hK; clear hK; have hK := hK'; clear hK'
                  go_simp
                  refine hK _ _ ?_
                  clear hK K
                  refine wpAny_ready (rs := [9]) (by kernel_rfl) (by simp) ?_
                  refine AllReady.cons rfl (fun K hK => ?_) ?_
                  · have hK' := hK; clear hK; have hK := hK'; clear hK'
                    obtain ⟨A3, c3, V3, hrun, hO3⟩ := OwnN.push hO.out (by omega) y 1
                    go_simp
                    refine hK _ _ ?_
                    clear hK K hrun
                    refine wpAny_take (i := 10) (v := ?_) rfl (by kernel_rfl) (by kernel_rfl) (by kernel_rfl) (fun _ _ _ h => h) (Or.inl ⟨by rfl, by intro w; go_simp; first | done | with_reducible rfl⟩) ?_
                    simp only [List.getElem_toArray, List.getElem_cons_succ, List.getElem_cons_zero, Act.put, List.setIfInBounds_toArray, List.set_cons_zero, List.set_cons_succ]
                    refine wpAny_done (by kernel_rfl) ?_ _
                    replace hO3 := Lib.hid hO3
                    clear x2 s1 hO gp
                    go_wp2_with (fail)
                    exact ⟨⟨k + 1, n' + 1, A3, c3, by omega, by go_num, rfl, by rw [hL.out]; exact hO3.out⟩, by simp [intOf]; omega⟩
                  exact AllReady.nil
                exact AllReady.nil
              exact AllReady.nil
            refine AllReady.cons rfl (fun K hK => ?_) ?_
            · have hK' := hK; clear hK; have hK := hK'; clear hK'
              go_simp
              refine hK _ _ ?_
              clear hK K
              refine wpAny_ready (rs := [4]) (by kernel_rfl) (by simp) ?_
              refine AllReady.cons rfl (fun K hK => ?_) ?_
              · have hK' := hK; clear hK; have hK := hK'; clear hK'
                go_simp
                refine hK _ _ ?_
                clear hK K
                refine wpAny_take (i := 7) (v := ?_) rfl (by kernel_rfl) (by kernel_rfl) (by kernel_rfl) (fun _ _ _ h => h) (Or.inl ⟨by rfl, by intro w; go_simp; first | done | with_reducible rfl⟩) ?_
                simp only [List.getElem_toArray, List.getElem_cons_succ, List.getElem_cons_zero, Act.put, List.setIfInBounds_toArray, List.set_cons_zero, List.set_cons_succ]
                refine wpAny_ready (rs := [8]) (by kernel_rfl) (by simp) ?_
                refine AllReady.cons rfl (fun K hK => ?_) ?_
                · have hK' := hK; clear hK; have hK := hK'; clear hK'
                  go_simp
                  refine hK _ _ ?_
                  clear hK K
                  refine wpAny_ready (rs := [9]) (by kernel_rfl) (by simp) ?_
                  refine AllReady.cons rfl (fun K hK => ?_) ?_
                  · have hK' := hK; clear hK; have hK := hK'; clear hK'
                    obtain ⟨A3, c3, V3, hrun, hO3⟩ := OwnN.push hO.out (by omega) y 1
                    go_simp
                    refine hK _ _ ?_
                    clear hK K hrun
                    refine wpAny_take (i := 10) (v := ?_) rfl (by kernel_rfl) (by kernel_rfl) (by kernel_rfl) (fun _ _ _ h => h) (Or.inl ⟨by rfl, by intro w; go_simp; first | done | with_reducible rfl⟩) ?_
                    simp only [List.getElem_toArray, List.getElem_cons_succ, List.getElem_cons_zero, Act.put, List.setIfInBounds_toArray, List.set_cons_zero, List.set_cons_succ]
                    refine wpAny_done (by kernel_rfl) ?_ _
                    replace hO3 := Lib.hid hO3
                    clear x2 s1 hO gp
                    go_wp2_with (fail)
                    exact ⟨⟨k + 1, n' + 1, A3, c3, by omega, by go_num, rfl, by rw [hL.out]; exact hO3.out⟩, by simp [intOf]; omega⟩
                  exact AllReady.nil
                exact AllReady.nil
              exact AllReady.nil
            exact AllReady.nil
          refine AllReady.cons rfl (fun K hK => ?_) ?_
          · have hK' := hK; clear hK; have hK := hK'; clear hK'
            go_simp
            refine hK _ _ ?_
            clear hK K
            refine wpAny_ready (rs := [2]) (by kernel_rfl) (by simp) ?_
            refine AllReady.cons rfl (fun K hK => ?_) ?_
            · have hK' := hK; clear hK; have hK := hK'; clear hK'
              go_simp
              refine hK _ _ ?_
              clear hK K
              refine wpAny_take (i := 3) (v := ?_) rfl (by kernel_rfl) (by kernel_rfl) (by kernel_rfl) (fun _ _ _ h => h) (Or.inl ⟨by rfl, by intro w; go_simp; first | done | with_reducible rfl⟩) ?_
              simp only [List.getElem_toArray, List.getElem_cons_succ, List.getElem_cons_zero, Act.put, List.setIfInBounds_toArray, List.set_cons_zero, List.set_cons_succ]
              refine wpAny_ready (rs := [4]) (by kernel_rfl) (by simp) ?_
              refine AllReady.cons rfl (fun K hK => ?_) ?_
              · have hK' := hK; clear hK; have hK := hK'; clear hK'
                go_simp
                refine hK _ _ ?_
                clear hK K
                refine wpAny_take (i := 7) (v := ?_) rfl (by kernel_rfl) (by kernel_rfl) (by kernel_rfl) (fun _ _ _ h => h) (Or.inl ⟨by rfl, by intro w; go_simp; first | done | with_reducible rfl⟩) ?_
                simp only [List.getElem_toArray, List.getElem_cons_succ, List.getElem_cons_zero, Act.put, List.setIfInBounds_toArray, List.set_cons_zero, List.set_cons_succ]
                refine wpAny_ready (rs := [8]) (by kernel_rfl) (by simp) ?_
                refine AllReady.cons rfl (fun K hK => ?_) ?_
                · have hK' := hK; clear hK; have hK := hK'; clear hK'
                  go_simp
                  refine hK _ _ ?_
                  clear hK K
                  refine wpAny_ready (rs := [9]) (by kernel_rfl) (by simp) ?_
                  refine AllReady.cons rfl (fun K hK => ?_) ?_
                  · have hK' := hK; clear hK; have hK := hK'; clear hK'
                    obtain ⟨A3, c3, V3, hrun, hO3⟩ := OwnN.push hO.out (by omega) y 1
                    go_simp
                    refine hK _ _ ?_
                    clear hK K hrun
                    refine wpAny_take (i := 10) (v := ?_) rfl (by kernel_rfl) (by kernel_rfl) (by kernel_rfl) (fun _ _ _ h => h) (Or.inl ⟨by rfl, by intro w; go_simp; first | done | with_reducible rfl⟩) ?_
                    simp only [List.getElem_toArray, List.getElem_cons_succ, List.getElem_cons_zero, Act.put, List.setIfInBounds_toArray, List.set_cons_zero, List.set_cons_succ]
                    refine wpAny_done (by kernel_rfl) ?_ _
                    replace hO3 := Lib.hid hO3
                    clear x2 s1 hO gp
                    go_wp2_with (fail)
                    exact ⟨⟨k + 1, n' + 1, A3, c3, by omega, by go_num, rfl, by rw [hL.out]; exact hO3.out⟩, by simp [intOf]; omega⟩
                  exact AllReady.nil
                exact AllReady.nil
              exact AllReady.nil
            exact AllReady.nil
          exact AllReady.nil
        · have z : (sign == 0) = false := beq_false_of_ne hs0
          by_cases p1' : 0 < sd
          · by_cases p2' : 0 < sign
            · have hL : partsL ss key sg sign (l.take (k + 1)) = partsL ss key sg sign (l.take k) ++ [y] := by rw [hpt]; simp [p1', p2']
              replace hL := Lib.hid hL; replace hs0 := Lib.hid hs0
              clear hpt
              go_wp2_with (fail)
              generalize ((W1.alloc (.cells #[.int .i64 x0, .int .i64 q, .int .i64 p] 56)).alloc (.cells #[.string sk, .int .i64 sd] 41)) = W6 at *
              have hO6 := hO5
              replace x2 := x2.out; replace s1 := s1.out; replace gp := gp6.out
              clear gp6 kk hO4 sc0 sc1 e0 e1 e2 gd
              refine wp_region_any (by kernel_rfl) ?_
              try (change wpAny _ _ _ _ _ _ _ (World.drew _))
              have hO := Lib.hid (hO6.out.keep ((Below.refl _ W6).drew))
              replace x2 : W6.drew.cell? _ = _ := x2
              replace s1 : W6.drew.cell? _ = _ := s1
              replace gp : W6.drew.cell? _ = _ := gp
              have hbW : True := trivial
              generalize W6.drew = V at *
              refine wpAny_take (i := 0) (v := ?_) rfl (by kernel_rfl) (by kernel_rfl) (by kernel_rfl) (fun _ _ _ h => h) (Or.inl ⟨by rfl, by intro w; go_simp; first | done | with_reducible rfl⟩) ?_
              simp only [List.getElem_toArray, List.getElem_cons_succ, List.getElem_cons_zero, Act.put, List.setIfInBounds_toArray, List.set_cons_zero, List.set_cons_succ]
              refine wpAny_take (i := 1) (v := ?_) rfl (by kernel_rfl) (by kernel_rfl) (by kernel_rfl) (fun _ _ _ h => h) (Or.inl ⟨by rfl, by intro w; go_simp; first | done | with_reducible rfl⟩) ?_
              simp only [List.getElem_toArray, List.getElem_cons_succ, List.getElem_cons_zero, Act.put, List.setIfInBounds_toArray, List.set_cons_zero, List.set_cons_succ]
              refine wpAny_take (i := 5) (v := ?_) rfl (by kernel_rfl) (by kernel_rfl) (by kernel_rfl) (fun _ _ _ h => h) (Or.inl ⟨by rfl, by intro w; go_simp; first | done | with_reducible rfl⟩) ?_
              simp only [List.getElem_toArray, List.getElem_cons_succ, List.getElem_cons_zero, Act.put, List.setIfInBounds_toArray, List.set_cons_zero, List.set_cons_succ]
              refine wpAny_ready (rs := [2, 6]) (by kernel_rfl) (by simp) ?_
              refine AllReady.cons rfl (fun K hK => ?_) ?_
              · have hK' := hK; clear hK; have hK := hK'; clear hK'
                go_simp
                refine hK _ _ ?_
                clear hK K
                refine wpAny_take (i := 3) (v := ?_) rfl (by kernel_rfl) (by kernel_rfl) (by kernel_rfl) (fun _ _ _ h => h) (Or.inl ⟨by rfl, by intro w; go_simp; first | done | with_reducible rfl⟩) ?_
                simp only [List.getElem_toArray, List.getElem_cons_succ, List.getElem_cons_zero, Act.put, List.setIfInBounds_toArray, List.set_cons_zero, List.set_cons_succ]
                refine wpAny_ready (rs := [4, 6]) (by kernel_rfl) (by simp) ?_
                refine AllReady.cons rfl (fun K hK => ?_) ?_
                · have hK' := hK; clear hK; have hK := hK'; clear hK'
                  go_simp
                  refine hK _ _ ?_
                  clear hK K
                  refine wpAny_ready (rs := [6]) (by kernel_rfl) (by simp) ?_
                  refine AllReady.cons rfl (fun K hK => ?_) ?_
                  · have hK' := hK; clear hK; have hK := hK'; clear hK'
                    go_simp
                    refine hK _ _ ?_
                    clear hK K
                    refine wpAny_take (i := 7) (v := ?_) rfl (by kernel_rfl) (by kernel_rfl) (by kernel_rfl) (fun _ _ _ h => h) (Or.inl ⟨by rfl, by intro w; go_simp; first | done | with_reducible rfl⟩) ?_
                    simp only [List.getElem_toArray, List.getElem_cons_succ, List.getElem_cons_zero, Act.put, List.setIfInBounds_toArray, List.set_cons_zero, List.set_cons_succ]
                    refine wpAny_ready (rs := [8]) (by kernel_rfl) (by simp) ?_
                    refine AllReady.cons rfl (fun K hK => ?_) ?_
                    · have hK' := hK; clear hK; have hK := hK'; clear hK'
                      go_simp
                      refine hK _ _ ?_
                      clear hK K
                      refine wpAny_ready (rs := [9]) (by kernel_rfl) (by simp) ?_
                      refine AllReady.cons rfl (fun K hK => ?_) ?_
                      · have hK' := hK; clear hK; have hK := hK'; clear hK'
                        obtain ⟨A3, c3, V3, hrun, hO3⟩ := OwnN.push hO.out (by omega) y 1
                        go_simp
                        refine hK _ _ ?_
                        clear hK K hrun
                        refine wpAny_take (i := 10) (v := ?_) rfl (by kernel_rfl) (by kernel_rfl) (by kernel_rfl) (fun _ _ _ h => h) (Or.inl ⟨by rfl, by intro w; go_simp; first | done | with_reducible rfl⟩) ?_
                        simp only [List.getElem_toArray, List.getElem_cons_succ, List.getElem_cons_zero, Act.put, List.setIfInBounds_toArray, List.set_cons_zero, List.set_cons_succ]
                        refine wpAny_done (by kernel_rfl) ?_ _
                        replace hO3 := Lib.hid hO3
                        clear x2 s1 hO gp
                        go_wp2_with (fail)
                        exact ⟨⟨k + 1, n' + 1, A3, c3, by omega, by go_num, rfl, by rw [hL.out]; exact hO3.out⟩, by simp [intOf]; omega⟩
                      exact AllReady.nil
                    exact AllReady.nil
                  exact AllReady.nil
                refine AllReady.cons rfl (fun K hK => ?_) ?_
                · have hK' := hK; clear hK; have hK := hK'; clear hK'
                  go_simp
                  refine hK _ _ ?_
                  clear hK K
                  refine wpAny_ready (rs := [4]) (by kernel_rfl) (by simp) ?_
                  refine AllReady.cons rfl (fun K hK => ?_) ?_
                  · have hK' := hK; clear hK; have hK := hK'; clear hK'
                    go_simp
                    refine hK _ _ ?_
                    clear hK K
                    refine wpAny_take (i := 7) (v := ?_) rfl (by kernel_rfl) (by kernel_rfl) (by kernel_rfl) (fun _ _ _ h => h) (Or.inl ⟨by rfl, by intro w; go_simp; first | done | with_reducible rfl⟩) ?_
                    simp only [List.getElem_toArray, List.getElem_cons_succ, List.getElem_cons_zero, Act.put, List.setIfInBounds_toArray, List.set_cons_zero, List.set_cons_succ]
                    refine wpAny_ready (rs := [8]) (by kernel_rfl) (by simp) ?_
                    refine AllReady.cons rfl (fun K hK => ?_) ?_
                    · have hK' := hK; clear hK; have hK := hK'; clear hK'
                      go_simp
                      refine hK _ _ ?_
                      clear hK K
                      refine wpAny_ready (rs := [9]) (by kernel_rfl) (by simp) ?_
                      refine AllReady.cons rfl (fun K hK => ?_) ?_
                      · have hK' := hK; clear hK; have hK := hK'; clear hK'
                        obtain ⟨A3, c3, V3, hrun, hO3⟩ := OwnN.push hO.out (by omega) y 1
                        go_simp
                        refine hK _ _ ?_
                        clear hK K hrun
                        refine wpAny_take (i := 10) (v := ?_) rfl (by kernel_rfl) (by kernel_rfl) (by kernel_rfl) (fun _ _ _ h => h) (Or.inl ⟨by rfl, by intro w; go_simp; first | done | with_reducible rfl⟩) ?_
                        simp only [List.getElem_toArray, List.getElem_cons_succ, List.getElem_cons_zero, Act.put, List.setIfInBounds_toArray, List.set_cons_zero, List.set_cons_succ]
                        refine wpAny_done (by kernel_rfl) ?_ _
                        replace hO3 := Lib.hid hO3
                        clear x2 s1 hO gp
                        go_wp2_with (fail)
                        exact ⟨⟨k + 1, n' + 1, A3, c3, by omega, by go_num, rfl, by rw [hL.out]; exact hO3.out⟩, by simp [intOf]; omega⟩
                      exact AllReady.nil
                    exact AllReady.nil
                  exact AllReady.nil
                exact AllReady.nil
              refine AllReady.cons rfl (fun K hK => ?_) ?_
              · have hK' := hK; clear hK; have hK := hK'; clear hK'
                go_simp
                refine hK _ _ ?_
                clear hK K
                refine wpAny_ready (rs := [2]) (by kernel_rfl) (by simp) ?_
                refine AllReady.cons rfl (fun K hK => ?_) ?_
                · have hK' := hK; clear hK; have hK := hK'; clear hK'
                  go_simp
                  refine hK _ _ ?_
                  clear hK K
                  refine wpAny_take (i := 3) (v := ?_) rfl (by kernel_rfl) (by kernel_rfl) (by kernel_rfl) (fun _ _ _ h => h) (Or.inl ⟨by rfl, by intro w; go_simp; first | done | with_reducible rfl⟩) ?_
                  simp only [List.getElem_toArray, List.getElem_cons_succ, List.getElem_cons_zero, Act.put, List.setIfInBounds_toArray, List.set_cons_zero, List.set_cons_succ]
                  refine wpAny_ready (rs := [4]) (by kernel_rfl) (by simp) ?_
                  refine AllReady.cons rfl (fun K hK => ?_) ?_
                  · have hK' := hK; clear hK; have hK := hK'; clear hK'
                    go_simp
                    refine hK _ _ ?_
                    clear hK K
                    refine wpAny_take (i := 7) (v := ?_) rfl (by kernel_rfl) (by kernel_rfl) (by kernel_rfl) (fun _ _ _ h => h) (Or.inl ⟨by rfl, by intro w; go_simp; first | done | with_reducible rfl⟩) ?_
                    simp only [List.getElem_toArray, List.getElem_cons_succ, List.getElem_cons_zero, Act.put, List.setIfInBounds_toArray, List.set_cons_zero, List.set_cons_succ]
                    refine wpAny_ready (rs := [8]) (by kernel_rfl) (by simp) ?_
                    refine AllReady.cons rfl (fun K hK => ?_) ?_
                    · have hK' := hK; clear hK; have hK := hK'; clear hK'
                      go_simp
                      refine hK _ _ ?_
                      clear hK K
                      refine wpAny_ready (rs := [9]) (by kernel_rfl) (by simp) ?_
                      refine AllReady.cons rfl (fun K hK => ?_) ?_
                      · have hK' := hK; clear hK; have hK := hK'; clear hK'
                        obtain ⟨A3, c3, V3, hrun, hO3⟩ := OwnN.push hO.out (by omega) y 1
                        go_simp
                        refine hK _ _ ?_
                        clear hK K hrun
                        refine wpAny_take (i := 10) (v := ?_) rfl (by kernel_rfl) (by kernel_rfl) (by kernel_rfl) (fun _ _ _ h => h) (Or.inl ⟨by rfl, by intro w; go_simp; first | done | with_reducible rfl⟩) ?_
                        simp only [List.getElem_toArray, List.getElem_cons_succ, List.getElem_cons_zero, Act.put, List.setIfInBounds_toArray, List.set_cons_zero, List.set_cons_succ]
                        refine wpAny_done (by kernel_rfl) ?_ _
                        replace hO3 := Lib.hid hO3
                        clear x2 s1 hO gp
                        go_wp2_with (fail)
                        exact ⟨⟨k + 1, n' + 1, A3, c3, by omega, by go_num, rfl, by rw [hL.out]; exact hO3.out⟩, by simp [intOf]; omega⟩
                      exact AllReady.nil
                    exact AllReady.nil
                  exact AllReady.nil
                exact AllReady.nil
              exact AllReady.nil
            · have hL : partsL ss key sg sign (l.take (k + 1)) = partsL ss key sg sign (l.take k) := by rw [hpt]; simp [p1', p2', hs0]
              replace hL := Lib.hid hL; replace hs0 := Lib.hid hs0
              clear hpt
              go_wp2_with (fail)
              exact ⟨⟨k + 1, n', A', c', by omega, by go_num, rfl, by rw [hL.out]; exact hO5.out⟩, by simp [intOf]; omega⟩
          · by_cases p2' : 0 < sign
            · have hL : partsL ss key sg sign (l.take (k + 1)) = partsL ss key sg sign (l.take k) := by rw [hpt]; simp [p1', p2', hs0]
              replace hL := Lib.hid hL; replace hs0 := Lib.hid hs0
              clear hpt
              go_wp2_with (fail)
              exact ⟨⟨k + 1, n', A', c', by omega, by go_num, rfl, by rw [hL.out]; exact hO5.out⟩, by simp [intOf]; omega⟩
            · have hL : partsL ss key sg sign (l.take (k + 1)) = partsL ss key sg sign (l.take k) ++ [y] := by rw [hpt]; simp [p1', p2']
              replace hL := Lib.hid hL; replace hs0 := Lib.hid hs0
              clear hpt
              go_wp2_with (fail)
              generalize ((W1.alloc (.cells #[.int .i64 x0, .int .i64 q, .int .i64 p] 56)).alloc (.cells #[.string sk, .int .i64 sd] 41)) = W6 at *
              have hO6 := hO5
              replace x2 := x2.out; replace s1 := s1.out; replace gp := gp6.out
              clear gp6 kk hO4 sc0 sc1 e0 e1 e2 gd
              refine wp_region_any (by kernel_rfl) ?_
              try (change wpAny _ _ _ _ _ _ _ (World.drew _))
              have hO := Lib.hid (hO6.out.keep ((Below.refl _ W6).drew))
              replace x2 : W6.drew.cell? _ = _ := x2
              replace s1 : W6.drew.cell? _ = _ := s1
              replace gp : W6.drew.cell? _ = _ := gp
              have hbW : True := trivial
              generalize W6.drew = V at *
              refine wpAny_take (i := 0) (v := ?_) rfl (by kernel_rfl) (by kernel_rfl) (by kernel_rfl) (fun _ _ _ h => h) (Or.inl ⟨by rfl, by intro w; go_simp; first | done | with_reducible rfl⟩) ?_
              simp only [List.getElem_toArray, List.getElem_cons_succ, List.getElem_cons_zero, Act.put, List.setIfInBounds_toArray, List.set_cons_zero, List.set_cons_succ]
              refine wpAny_take (i := 1) (v := ?_) rfl (by kernel_rfl) (by kernel_rfl) (by kernel_rfl) (fun _ _ _ h => h) (Or.inl ⟨by rfl, by intro w; go_simp; first | done | with_reducible rfl⟩) ?_
              simp only [List.getElem_toArray, List.getElem_cons_succ, List.getElem_cons_zero, Act.put, List.setIfInBounds_toArray, List.set_cons_zero, List.set_cons_succ]
              refine wpAny_take (i := 5) (v := ?_) rfl (by kernel_rfl) (by kernel_rfl) (by kernel_rfl) (fun _ _ _ h => h) (Or.inl ⟨by rfl, by intro w; go_simp; first | done | with_reducible rfl⟩) ?_
              simp only [List.getElem_toArray, List.getElem_cons_succ, List.getElem_cons_zero, Act.put, List.setIfInBounds_toArray, List.set_cons_zero, List.set_cons_succ]
              refine wpAny_ready (rs := [2, 6]) (by kernel_rfl) (by simp) ?_
              refine AllReady.cons rfl (fun K hK => ?_) ?_
              · have hK' := hK; clear hK; have hK := hK'; clear hK'
                go_simp
                refine hK _ _ ?_
                clear hK K
                refine wpAny_take (i := 3) (v := ?_) rfl (by kernel_rfl) (by kernel_rfl) (by kernel_rfl) (fun _ _ _ h => h) (Or.inl ⟨by rfl, by intro w; go_simp; first | done | with_reducible rfl⟩) ?_
                simp only [List.getElem_toArray, List.getElem_cons_succ, List.getElem_cons_zero, Act.put, List.setIfInBounds_toArray, List.set_cons_zero, List.set_cons_succ]
                refine wpAny_ready (rs := [4, 6]) (by kernel_rfl) (by simp) ?_
                refine AllReady.cons rfl (fun K hK => ?_) ?_
                · have hK' := hK; clear hK; have hK := hK'; clear hK'
                  go_simp
                  refine hK _ _ ?_
                  clear hK K
                  refine wpAny_ready (rs := [6]) (by kernel_rfl) (by simp) ?_
                  refine AllReady.cons rfl (fun K hK => ?_) ?_
                  · have hK' := hK; clear hK; have hK := hK'; clear hK'
                    go_simp
                    refine hK _ _ ?_
                    clear hK K
                    refine wpAny_take (i := 7) (v := ?_) rfl (by kernel_rfl) (by kernel_rfl) (by kernel_rfl) (fun _ _ _ h => h) (Or.inl ⟨by rfl, by intro w; go_simp; first | done | with_reducible rfl⟩) ?_
                    simp only [List.getElem_toArray, List.getElem_cons_succ, List.getElem_cons_zero, Act.put, List.setIfInBounds_toArray, List.set_cons_zero, List.set_cons_succ]
                    refine wpAny_ready (rs := [8]) (by kernel_rfl) (by simp) ?_
                    refine AllReady.cons rfl (fun K hK => ?_) ?_
                    · have hK' := hK; clear hK; have hK := hK'; clear hK'
                      go_simp
                      refine hK _ _ ?_
                      clear hK K
                      refine wpAny_ready (rs := [9]) (by kernel_rfl) (by simp) ?_
                      refine AllReady.cons rfl (fun K hK => ?_) ?_
                      · have hK' := hK; clear hK; have hK := hK'; clear hK'
                        obtain ⟨A3, c3, V3, hrun, hO3⟩ := OwnN.push hO.out (by omega) y 1
                        go_simp
                        refine hK _ _ ?_
                        clear hK K hrun
                        refine wpAny_take (i := 10) (v := ?_) rfl (by kernel_rfl) (by kernel_rfl) (by kernel_rfl) (fun _ _ _ h => h) (Or.inl ⟨by rfl, by intro w; go_simp; first | done | with_reducible rfl⟩) ?_
                        simp only [List.getElem_toArray, List.getElem_cons_succ, List.getElem_cons_zero, Act.put, List.setIfInBounds_toArray, List.set_cons_zero, List.set_cons_succ]
                        refine wpAny_done (by kernel_rfl) ?_ _
                        replace hO3 := Lib.hid hO3
                        clear x2 s1 hO gp
                        go_wp2_with (fail)
                        exact ⟨⟨k + 1, n' + 1, A3, c3, by omega, by go_num, rfl, by rw [hL.out]; exact hO3.out⟩, by simp [intOf]; omega⟩
                      exact AllReady.nil
                    exact AllReady.nil
                  exact AllReady.nil
                refine AllReady.cons rfl (fun K hK => ?_) ?_
                · have hK' := hK; clear hK; have hK := hK'; clear hK'
                  go_simp
                  refine hK _ _ ?_
                  clear hK K
                  refine wpAny_ready (rs := [4]) (by kernel_rfl) (by simp) ?_
                  refine AllReady.cons rfl (fun K hK => ?_) ?_
                  · have hK' := hK; clear hK; have hK := hK'; clear hK'
                    go_simp
                    refine hK _ _ ?_
                    clear hK K
                    refine wpAny_take (i := 7) (v := ?_) rfl (by kernel_rfl) (by kernel_rfl) (by kernel_rfl) (fun _ _ _ h => h) (Or.inl ⟨by rfl, by intro w; go_simp; first | done | with_reducible rfl⟩) ?_
                    simp only [List.getElem_toArray, List.getElem_cons_succ, List.getElem_cons_zero, Act.put, List.setIfInBounds_toArray, List.set_cons_zero, List.set_cons_succ]
                    refine wpAny_ready (rs := [8]) (by kernel_rfl) (by simp) ?_
                    refine AllReady.cons rfl (fun K hK => ?_) ?_
                    · have hK' := hK; clear hK; have hK := hK'; clear hK'
                      go_simp
                      refine hK _ _ ?_
                      clear hK K
                      refine wpAny_ready (rs := [9]) (by kernel_rfl) (by simp) ?_
                      refine AllReady.cons rfl (fun K hK => ?_) ?_
                      · have hK' := hK; clear hK; have hK := hK'; clear hK'
                        obtain ⟨A3, c3, V3, hrun, hO3⟩ := OwnN.push hO.out (by omega) y 1
                        go_simp
                        refine hK _ _ ?_
                        clear hK K hrun
                        refine wpAny_take (i := 10) (v := ?_) rfl (by kernel_rfl) (by kernel_rfl) (by kernel_rfl) (fun _ _ _ h => h) (Or.inl ⟨by rfl, by intro w; go_simp; first | done | with_reducible rfl⟩) ?_
                        simp only [List.getElem_toArray, List.getElem_cons_succ, List.getElem_cons_zero, Act.put, List.setIfInBounds_toArray, List.set_cons_zero, List.set_cons_succ]
                        refine wpAny_done (by kernel_rfl) ?_ _
                        replace hO3 := Lib.hid hO3
                        clear x2 s1 hO gp
                        go_wp2_with (fail)
                        exact ⟨⟨k + 1, n' + 1, A3, c3, by omega, by go_num, rfl, by rw [hL.out]; exact hO3.out⟩, by simp [intOf]; omega⟩
                      exact AllReady.nil
                    exact AllReady.nil
                  exact AllReady.nil
                exact AllReady.nil
              refine AllReady.cons rfl (fun K hK => ?_) ?_
              · have hK' := hK; clear hK; have hK := hK'; clear hK'
                go_simp
                refine hK _ _ ?_
                clear hK K
                refine wpAny_ready (rs := [2]) (by kernel_rfl) (by simp) ?_
                refine AllReady.cons rfl (fun K hK => ?_) ?_
                · have hK' := hK; clear hK; have hK := hK'; clear hK'
                  go_simp
                  refine hK _ _ ?_
                  clear hK K
                  refine wpAny_take (i := 3) (v := ?_) rfl (by kernel_rfl) (by kernel_rfl) (by kernel_rfl) (fun _ _ _ h => h) (Or.inl ⟨by rfl, by intro w; go_simp; first | done | with_reducible rfl⟩) ?_
                  simp only [List.getElem_toArray, List.getElem_cons_succ, List.getElem_cons_zero, Act.put, List.setIfInBounds_toArray, List.set_cons_zero, List.set_cons_succ]
                  refine wpAny_ready (rs := [4]) (by kernel_rfl) (by simp) ?_
                  refine AllReady.cons rfl (fun K hK => ?_) ?_
                  · have hK' := hK; clear hK; have hK := hK'; clear hK'
                    go_simp
                    refine hK _ _ ?_
                    clear hK K
                    refine wpAny_take (i := 7) (v := ?_) rfl (by kernel_rfl) (by kernel_rfl) (by kernel_rfl) (fun _ _ _ h => h) (Or.inl ⟨by rfl, by intro w; go_simp; first | done | with_reducible rfl⟩) ?_
                    simp only [List.getElem_toArray, List.getElem_cons_succ, List.getElem_cons_zero, Act.put, List.setIfInBounds_toArray, List.set_cons_zero, List.set_cons_succ]
                    refine wpAny_ready (rs := [8]) (by kernel_rfl) (by simp) ?_
                    refine AllReady.cons rfl (fun K hK => ?_) ?_
                    · have hK' := hK; clear hK; have hK := hK'; clear hK'
                      go_simp
                      refine hK _ _ ?_
                      clear hK K
                      refine wpAny_ready (rs := [9]) (by kernel_rfl) (by simp) ?_
                      refine AllReady.cons rfl (fun K hK => ?_) ?_
                      · have hK' := hK; clear hK; have hK := hK'; clear hK'
                        obtain ⟨A3, c3, V3, hrun, hO3⟩ := OwnN.push hO.out (by omega) y 1
                        go_simp
                        refine hK _ _ ?_
                        clear hK K hrun
                        refine wpAny_take (i := 10) (v := ?_) rfl (by kernel_rfl) (by kernel_rfl) (by kernel_rfl) (fun _ _ _ h => h) (Or.inl ⟨by rfl, by intro w; go_simp; first | done | with_reducible rfl⟩) ?_
                        simp only [List.getElem_toArray, List.getElem_cons_succ, List.getElem_cons_zero, Act.put, List.setIfInBounds_toArray, List.set_cons_zero, List.set_cons_succ]
                        refine wpAny_done (by kernel_rfl) ?_ _
                        replace hO3 := Lib.hid hO3
                        clear x2 s1 hO gp
                        go_wp2_with (fail)
                        exact ⟨⟨k + 1, n' + 1, A3, c3, by omega, by go_num, rfl, by rw [hL.out]; exact hO3.out⟩, by simp [intOf]; omega⟩
                      exact AllReady.nil
                    exact AllReady.nil
                  exact AllReady.nil
                exact AllReady.nil
              exact AllReady.nil
      · have e1k : (sk.toList == key.toList) = false := by rw [str_eq]; exact decide_eq_false hkk
        have hL : partsL ss key sg sign (l.take (k + 1)) = partsL ss key sg sign (l.take k) := by rw [hpt]; simp [hkk]
        replace hL := Lib.hid hL; replace hkk := Lib.hid hkk
        clear hpt
        go_wp2_with (fail)
        exact ⟨⟨k + 1, n', A', c', by omega, by go_num, rfl, by rw [hL.out]; exact hO5.out⟩, by simp [intOf]; omega⟩
    · obtain rfl : k = m := by omega
      rw [List.take_of_length_le (by have := hel.out; omega)] at hO
      have hfin := Lib.hid (show OwnN w A' n' c' (partsL ss key sg sign l) W1 from ⟨kb.out.trans (hO.bel.mono kb.out.size), ownsRow_re hO.own kb.out.size, hO.len, hO.cap⟩)
      clear hO
      go_wp2_with (fail)
      go_ret
      exact ⟨A', n', c', rfl, hfin.out⟩
end Go.Proofs.YthmkfbabacehnaaDoor
