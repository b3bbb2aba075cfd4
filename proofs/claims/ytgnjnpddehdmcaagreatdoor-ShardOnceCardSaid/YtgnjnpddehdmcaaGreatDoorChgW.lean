/- What a call may have turned: the blocks of a set, and new ones. No program in sight. -/
import Derived.Test.YtgnjnpddehdmcaaGreatDoorHasG
import Derived.Lib.MinMaxS
import Derived.Test.YtgnjnpddehdmcaaGreatDoorHas
namespace Go.Proofs.YtgnjnpddehdmcaaGreatDoor
open Go.RowKit Go.Shelf
set_option linter.unusedSimpArgs false
set_option linter.unusedVariables false
set_option linter.unusedSectionVars false
set_option maxRecDepth 10000
def maxB (a b : ByteArray) : ByteArray := if lessB a b then b else a
def meetT (a b : Rg) : Rg := (maxB a.1 b.1, if cmpX b.2 a.2 < 0 then b.2 else a.2)
def meetB (a b : Rg) : Bool := okG a && okG b && okG (meetT a b)
theorem max_str {P : Program} (w : World) (ts : Array TypeId) (t : TypeId) (x y : ByteArray) : (Builtin.max_ ts t #[.string x, .string y]).run P w = .ok (.string (maxB x y)) w := by
 rw [Lib.run_max_strs]
 congr 2
 unfold maxB Lib.maxS
 simp only [less_iff, ByteArray.toList_eq]
set_option maxHeartbeats 8000000 in
theorem meet_any (a1 a2 b1 b2 : ByteArray) (w : World) (ha : szG (a1, a2)) (hb : szG (b1, b2)) :
  Calls Tryz.prog 89 #[.agg #[.string a1, .string a2], .agg #[.string b1, .string b2]] w fun e w' => ∃ u1 u2 y, e = .returned (.tuple #[.agg #[.string u1, .string u2], .bool (meetB (a1, a2) (b1, b2)), y]) ∧ Below w.heap.size w w' := by
 obtain ⟨W0, hW0⟩ : ∃ W, W = (((w.alloc (.cells #[.string a1, .string a2] 32)).alloc (.cells #[.string b1, .string b2] 32)).alloc (.cells #[.string ⟨#[]⟩, .string ⟨#[]⟩] 32)).alloc (.cells #[.string a1, .string a2, .string b1, .string b2] 32) := ⟨_, rfl⟩
 have k0 : Below w.heap.size w W0 := by rw [hW0]; exact ((((Below.refl _ w).alloc (Nat.le_refl _) _).alloc (by simp) _).alloc (by simp <;> omega) _).alloc (by simp <;> omega) _
 have q0 : W0.heap[w.heap.size]? = some (.cells #[.string a1, .string a2] 32 (0, 0)) := by rw [hW0]; repeat (first | exact hpNewAt _ (by simp) | exact hpNew _ _ | refine (hpOld _ (by simp <;> omega)).trans ?_)
 have q1 : W0.heap[w.heap.size + 1]? = some (.cells #[.string b1, .string b2] 32 (0, 0)) := by rw [hW0]; repeat (first | exact hpNewAt _ (by simp) | exact hpNew _ _ | refine (hpOld _ (by simp <;> omega)).trans ?_)
 have q2 : W0.heap[w.heap.size + 1 + 1]? = some (.cells #[.string ⟨#[]⟩, .string ⟨#[]⟩] 32 (0, 0)) := by rw [hW0]; repeat (first | exact hpNewAt _ (by simp) | exact hpNew _ _ | refine (hpOld _ (by simp <;> omega)).trans ?_)
 have q3 : W0.heap[w.heap.size + 1 + 1 + 1]? = some (.cells #[.string a1, .string a2, .string b1, .string b2] 32 (0, 0)) := by rw [hW0]; repeat (first | exact hpNewAt _ (by simp) | exact hpNew _ _ | refine (hpOld _ (by simp <;> omega)).trans ?_)
 have he := ends_many [(a1, a2), (b1, b2)] (some ⟨w.heap.size + 1 + 1 + 1, 0, none⟩) 2 2 W0 (gs_two q3) (by omega) (by intro x hx; simp at hx; rcases hx with rfl | rfl; exact ha; exact hb)
 have hE : endsE [(a1, a2), (b1, b2)] = if okG (a1, a2) && okG (b1, b2) then 0 else 2 := by unfold endsE; simp
 replace q0 := Lh q0; replace q1 := Lh q1; replace q2 := Lh q2; replace q3 := Lh q3; replace k0 := Lh k0
 replace ha := Lh ha; replace hb := Lh hb
 cases hok : (okG (a1, a2) && okG (b1, b2)) with
 | false =>
  have hm : meetB (a1, a2) (b1, b2) = false := by unfold meetB; rw [hok]; rfl
  rw [hok] at hE
  rw [hE] at he
  replace hE := Lh hE; replace hok := Lh hok
  rw [hm]
  replace hm := Lh hm
  go_enter Tryz.func89, Tryz.ntmps89
  go_wp2_with (fail)
  rw [← hW0]
  replace hW0 := Lh hW0
  refine he.mono ?_
  rintro e w1 ⟨v, rfl, -, c1⟩
  have k1 := Lh (k0.out.trans (c1.mono k0.out.size))
  have q2' := (c1.block _ (blkX q2.out)).trans q2.out
  have s0 := blkC q2' 0; have s1 := blkC q2' 1; have sf := blkF q2'; have sx := blkX q2'
  simp only [List.getElem?_toArray, List.getElem?_cons_zero, List.getElem?_cons_succ] at s0 s1
  replace q2' := Lh q2'
  clear c1 he
  go_wp2_with (fail)
  refine bodyPost_ret (by simp [results, Tryz.results89, go_sem, *]; try with_reducible rfl) rfl ?_
  exact ⟨_, _, _, rfl, (k1.out.setCell (p := ⟨w.heap.size + 1 + 1, 0, none⟩) (by simp only; omega) _).setCell (p := ⟨w.heap.size + 1 + 1, 1, none⟩) (by simp only; omega) _⟩
 | true =>
  have hm : meetB (a1, a2) (b1, b2) = okG (meetT (a1, a2) (b1, b2)) := by unfold meetB; rw [hok]; rfl
  rw [hok] at hE
  rw [hE] at he
  replace hE := Lh hE
  obtain ⟨r, hr⟩ : ∃ r, r = okG (meetT (a1, a2) (b1, b2)) := ⟨_, rfl⟩
  rw [hm, ← hr]
  replace hm := Lh hm; replace hr := Lh hr
  have hok' : [(a1, a2), (b1, b2)].all okG = true := by simpa using hok
  replace hok := Lh hok; replace hok' := Lh hok'
  have hmx := fun W ts t => max_str (P := Tryz.prog) W ts t a1 b1
  have h1 := fun W => ends1_any b2 a2 W
  go_enter Tryz.func89, Tryz.ntmps89
  go_wp2_with (fail)
  rw [← hW0]
  replace hW0 := Lh hW0
  refine he.mono ?_
  rintro e w1 ⟨v, rfl, hv, c1⟩
  obtain rfl := hv hok'.out
  have k1 := Lh (k0.out.trans (c1.mono k0.out.size))
  have q0' := (c1.block _ (blkX q0.out)).trans q0.out
  have q1' := (c1.block _ (blkX q1.out)).trans q1.out
  have q2' := (c1.block _ (blkX q2.out)).trans q2.out
  have x0 := blkX q0'; have x1 := blkX q1'; have r0 := blkC q0' 0; have r1 := blkC q0' 1; have t0 := blkC q1' 0; have t1 := blkC q1' 1
  have s0 := blkC q2' 0; have s1 := blkC q2' 1; have sf := blkF q2'; have sx := blkX q2'
  simp only [List.getElem?_toArray, List.getElem?_cons_zero, List.getElem?_cons_succ] at s0 s1 r0 r1 t0 t1
  replace q2' := Lh q2'; replace q1' := Lh q1'; replace q0' := Lh q0'
  clear c1 he
  go_wp2_with (fail)
  refine (h1 _).mono ?_
  rintro e w2 ⟨rfl, rfl⟩
  have hms : (maxB a1 b1).size ≤ 140737488355328 := by unfold maxB; split; exact hb.out.1; exact ha.out.1
  replace hms := Lh hms
  by_cases hz : cmpX b2 a2 < 0
  ·
   have hT : r = okG (maxB a1 b1, b2) := by rw [hr.out]; unfold meetT; rw [if_pos hz]
   have hck := fun W => rng_any (maxB a1 b1) b2 W hms.out hb.out.2
   obtain ⟨Z, hZ⟩ : ∃ Z, Z = w1.alloc (.cells #[.string (maxB a1 b1), .string b2] 32) := ⟨_, rfl⟩
   have bZ : Below w1.heap.size w1 Z := by rw [hZ]; exact (Below.refl _ _).alloc (Nat.le_refl _) _
   have qZ : Z.heap[w1.heap.size]? = some (.cells #[.string (maxB a1 b1), .string b2] 32 (0, 0)) := by rw [hZ]; exact hpNew _ _
   have kZ := Lh (k1.out.trans (bZ.mono k1.out.size))
   have q2Z := (bZ.block _ (blkX q2'.out)).trans q2'.out
   replace q2Z := Lh q2Z; replace qZ := Lh qZ; replace bZ := Lh bZ; replace hr := Lh hr
   cases r with
   | true =>
    rw [takeC_ok hT.symm] at hck
    replace hT := Lh hT
    go_wp2_with (fail)
    rw [← hZ]; replace hZ := Lh hZ
    refine (hck _).mono ?_
    rintro e w3 ⟨rfl, c3⟩
    have k3 := Lh (kZ.out.trans (c3.mono kZ.out.size))
    have z' := (c3.block _ (blkX qZ.out)).trans qZ.out
    have q2w := (c3.block _ (blkX q2Z.out)).trans q2Z.out
    have r0 := blkC z' 0; have r1 := blkC z' 1; have xz := blkX z'
    have s0 := blkC q2w 0; have s1 := blkC q2w 1; have sf := blkF q2w; have sx := blkX q2w
    simp only [List.getElem?_toArray, List.getElem?_cons_zero, List.getElem?_cons_succ] at s0 s1 r0 r1
    replace z' := Lh z'; replace q2w := Lh q2w
    clear c3
    go_wp2_with (fail)
    refine bodyPost_ret (by simp [results, Tryz.results89, go_sem, *]; try with_reducible rfl) rfl ?_
    exact ⟨_, _, _, rfl, (k3.out.setCell (p := ⟨w.heap.size + 1 + 1, 0, none⟩) (by simp only; omega) _).setCell (p := ⟨w.heap.size + 1 + 1, 1, none⟩) (by simp only; omega) _⟩
   | false =>
    rw [takeC_bad hT.symm] at hck
    replace hT := Lh hT
    go_wp2_with (fail)
    rw [← hZ]; replace hZ := Lh hZ
    refine (hck _).mono ?_
    rintro e w3 ⟨rfl, c3⟩
    have k3 := Lh (kZ.out.trans (c3.mono kZ.out.size))
    have z' := (c3.block _ (blkX qZ.out)).trans qZ.out
    have q2w := (c3.block _ (blkX q2Z.out)).trans q2Z.out
    have r0 := blkC z' 0; have r1 := blkC z' 1; have xz := blkX z'
    have s0 := blkC q2w 0; have s1 := blkC q2w 1; have sf := blkF q2w; have sx := blkX q2w
    simp only [List.getElem?_toArray, List.getElem?_cons_zero, List.getElem?_cons_succ] at s0 s1 r0 r1
    replace z' := Lh z'; replace q2w := Lh q2w
    clear c3
    go_wp2_with (fail)
    refine bodyPost_ret (by simp [results, Tryz.results89, go_sem, *]; try with_reducible rfl) rfl ?_
    exact ⟨_, _, _, rfl, (k3.out.setCell (p := ⟨w.heap.size + 1 + 1, 0, none⟩) (by simp only; omega) _).setCell (p := ⟨w.heap.size + 1 + 1, 1, none⟩) (by simp only; omega) _⟩
  ·
   have hT : r = okG (maxB a1 b1, a2) := by rw [hr.out]; unfold meetT; rw [if_neg hz]
   have hck := fun W => rng_any (maxB a1 b1) a2 W hms.out ha.out.2
   obtain ⟨Z, hZ⟩ : ∃ Z, Z = w1.alloc (.cells #[.string (maxB a1 b1), .string a2] 32) := ⟨_, rfl⟩
   have bZ : Below w1.heap.size w1 Z := by rw [hZ]; exact (Below.refl _ _).alloc (Nat.le_refl _) _
   have qZ : Z.heap[w1.heap.size]? = some (.cells #[.string (maxB a1 b1), .string a2] 32 (0, 0)) := by rw [hZ]; exact hpNew _ _
   have kZ := Lh (k1.out.trans (bZ.mono k1.out.size))
   have q2Z := (bZ.block _ (blkX q2'.out)).trans q2'.out
   replace q2Z := Lh q2Z; replace qZ := Lh qZ; replace bZ := Lh bZ; replace hr := Lh hr
   cases r with
   | true =>
    rw [takeC_ok hT.symm] at hck
    replace hT := Lh hT
    go_wp2_with (fail)
    rw [← hZ]; replace hZ := Lh hZ
    refine (hck _).mono ?_
    rintro e w3 ⟨rfl, c3⟩
    have k3 := Lh (kZ.out.trans (c3.mono kZ.out.size))
    have z' := (c3.block _ (blkX qZ.out)).trans qZ.out
    have q2w := (c3.block _ (blkX q2Z.out)).trans q2Z.out
    have r0 := blkC z' 0; have r1 := blkC z' 1; have xz := blkX z'
    have s0 := blkC q2w 0; have s1 := blkC q2w 1; have sf := blkF q2w; have sx := blkX q2w
    simp only [List.getElem?_toArray, List.getElem?_cons_zero, List.getElem?_cons_succ] at s0 s1 r0 r1
    replace z' := Lh z'; replace q2w := Lh q2w
    clear c3
    go_wp2_with (fail)
    refine bodyPost_ret (by simp [results, Tryz.results89, go_sem, *]; try with_reducible rfl) rfl ?_
    exact ⟨_, _, _, rfl, (k3.out.setCell (p := ⟨w.heap.size + 1 + 1, 0, none⟩) (by simp only; omega) _).setCell (p := ⟨w.heap.size + 1 + 1, 1, none⟩) (by simp only; omega) _⟩
   | false =>
    rw [takeC_bad hT.symm] at hck
    replace hT := Lh hT
    go_wp2_with (fail)
    rw [← hZ]; replace hZ := Lh hZ
    refine (hck _).mono ?_
    rintro e w3 ⟨rfl, c3⟩
    have k3 := Lh (kZ.out.trans (c3.mono kZ.out.size))
    have z' := (c3.block _ (blkX qZ.out)).trans qZ.out
    have q2w := (c3.block _ (blkX q2Z.out)).trans q2Z.out
    have r0 := blkC z' 0; have r1 := blkC z' 1; have xz := blkX z'
    have s0 := blkC q2w 0; have s1 := blkC q2w 1; have sf := blkF q2w; have sx := blkX q2w
    simp only [List.getElem?_toArray, List.getElem?_cons_zero, List.getElem?_cons_succ] at s0 s1 r0 r1
    replace z' := Lh z'; replace q2w := Lh q2w
    clear c3
    go_wp2_with (fail)
    refine bodyPost_ret (by simp [results, Tryz.results89, go_sem, *]; try with_reducible rfl) rfl ?_
    exact ⟨_, _, _, rfl, (k3.out.setCell (p := ⟨w.heap.size + 1 + 1, 0, none⟩) (by simp only; omega) _).setCell (p := ⟨w.heap.size + 1 + 1, 1, none⟩) (by simp only; omega) _⟩
def woL (a b : Rg) : List Rg := if lessB a.1 b.1 then [(a.1, if cmpX a.2 b.1 < 0 then a.2 else b.1)] else []
def woR (a b : Rg) : List Rg := if cmpX b.2 a.2 < 0 then [(maxB a.1 b.2, a.2)] else []
def wout (a b : Rg) : List Rg := if okG a && okG b then woL a b ++ woR a b else []
theorem woL_len (a b : Rg) : (woL a b).length ≤ 1 := by unfold woL; split <;> simp
theorem woR_len (a b : Rg) : (woR a b).length ≤ 1 := by unfold woR; split <;> simp
theorem wout_len (a b : Rg) : (wout a b).length ≤ 2 := by
 unfold wout; split
 ·
  rw [List.length_append]; have := woL_len a b; have := woR_len a b; omega
 ·
  simp
def GOwn (base : Nat) (W : World) (A : Option Addr) (n c : Nat) (l : List Rg) : Prop := W.ownsRow base 32 2 (.slice A n c) n (flat encG l)
theorem GOwn.nil (base : Nat) (W : World) : GOwn base W none 0 0 [] := World.ownsRow_nil _ _ _ _
theorem GOwn.keep {base : Nat} {w w' : World} {A : Option Addr} {n c : Nat} {l : List Rg} (h : GOwn base w A n c l) (hb : Below w.heap.size w w') : GOwn base w' A n c l := by
 rcases h.2 with e | ⟨g, cp, cur, e1, e2, hh, r⟩
 ·
  exact ⟨h.1, .inl e⟩
 ·
  exact ⟨h.1, .inr ⟨g, cp, cur, e1, e2, (hb.block g (blkX hh)).trans hh, r⟩⟩
theorem GOwn.gs {base : Nat} {w : World} {A : Option Addr} {n c : Nat} {l : List Rg} (h : GOwn base w A n c l) (hl : l.length = n) : GS w A n l := SL.of_own encG_len h hl
theorem GOwn.app {base : Nat} {W : World} {A : Option Addr} {n c : Nat} {l : List Rg} (h : GOwn base W A n c l) (hb : base ≤ W.heap.size) {x : Rg} {g : Nat} (hg : W.heap[g]? = some (.cells #[.string x.1, .string x.2] 32 (0, 0))) (hn : n ≤ 100000) :
  ∃ A' c' W', (appSem #[42, 42] 42 #[.slice A n c, .slice (some ⟨g, 0, none⟩) 1 1]).run Tryz.prog W = .ok (.slice A' (n + 1) c') W' ∧ GOwn base W' A' (n + 1) c' (l ++ [x]) ∧ W.grownBy W' (rowOf A) ∧ (rowOf A' = rowOf A ∨ rowOf A' = some W.heap.size) := by
 obtain ⟨A', c', W', hrun, -, hown, hgr, hat⟩ := append_sl elemG encG_len encG_one (ty := 42) (d := 1) h hb (gs_one hg) (by omega) (by omega)
 exact ⟨A', c', W', hrun, hown, hgr, hat⟩
def Wout (w : World) (l : List Rg) (z : Int) (e : Ending) (w' : World) : Prop := ∃ A n c, e = .returned (.tuple #[.slice A n c, .int .i64 z]) ∧ l.length = n ∧ GOwn w.heap.size w' A n c l ∧ Below w.heap.size w w'

attribute [local go_sem ↓] hideAppend
set_option maxHeartbeats 16000000 in
theorem without_any (a1 a2 b1 b2 : ByteArray) (w : World) (ha : szG (a1, a2)) (hb : szG (b1, b2)) :
  Calls Tryz.prog 76 #[.agg #[.string a1, .string a2], .agg #[.string b1, .string b2]] w (Wout w (wout (a1, a2) (b1, b2)) (endsE [(a1, a2), (b1, b2)])) := by
 obtain ⟨W0, hW0⟩ : ∃ W, W = ((w.alloc (.cells #[.string a1, .string a2] 32)).alloc (.cells #[.string b1, .string b2] 32)).alloc (.cells #[.string a1, .string a2, .string b1, .string b2] 32) := ⟨_, rfl⟩
 have k0 : Below w.heap.size w W0 := by rw [hW0]; exact (((Below.refl _ w).alloc (Nat.le_refl _) _).alloc (by simp) _).alloc (by simp <;> omega) _
 have q0 : W0.heap[w.heap.size]? = some (.cells #[.string a1, .string a2] 32 (0, 0)) := by rw [hW0]; repeat (first | exact hpNewAt _ (by simp) | exact hpNew _ _ | refine (hpOld _ (by simp <;> omega)).trans ?_)
 have q1 : W0.heap[w.heap.size + 1]? = some (.cells #[.string b1, .string b2] 32 (0, 0)) := by rw [hW0]; repeat (first | exact hpNewAt _ (by simp) | exact hpNew _ _ | refine (hpOld _ (by simp <;> omega)).trans ?_)
 have q3 : W0.heap[w.heap.size + 1 + 1]? = some (.cells #[.string a1, .string a2, .string b1, .string b2] 32 (0, 0)) := by rw [hW0]; repeat (first | exact hpNewAt _ (by simp) | exact hpNew _ _ | refine (hpOld _ (by simp <;> omega)).trans ?_)
 have he := ends_many [(a1, a2), (b1, b2)] (some ⟨w.heap.size + 1 + 1, 0, none⟩) 2 2 W0 (gs_two q3) (by omega) (by intro x hx; simp at hx; rcases hx with rfl | rfl; exact ha; exact hb)
 have hE : endsE [(a1, a2), (b1, b2)] = if okG (a1, a2) && okG (b1, b2) then 0 else 2 := by unfold endsE; simp
 obtain ⟨l, hl⟩ : ∃ l, l = wout (a1, a2) (b1, b2) := ⟨_, rfl⟩
 rw [← hl]
 replace q0 := Lh q0; replace q1 := Lh q1; replace q3 := Lh q3; replace k0 := Lh k0
 replace ha := Lh ha; replace hb := Lh hb
 cases hok : (okG (a1, a2) && okG (b1, b2)) with
 | false =>
  rw [hok] at hE
  rw [hE] at he ⊢
  have hl0 : l = [] := by rw [hl]; unfold wout; rw [hok]; rfl
  replace hE := Lh hE; replace hok := Lh hok; replace hl := Lh hl; replace hl0 := Lh hl0
  go_enter Tryz.func76, Tryz.ntmps76
  go_wp2_with (fail)
  rw [← hW0]
  replace hW0 := Lh hW0
  refine he.mono ?_
  rintro e w1 ⟨v, rfl, -, c1⟩
  have k1 := Lh (k0.out.trans (c1.mono k0.out.size))
  clear c1 he
  go_wp2_with (fail)
  refine bodyPost_ret (results_tmp2 rfl _ _ _) rfl ?_
  exact ⟨none, 0, 0, rfl, by rw [hl0.out]; rfl, by rw [hl0.out]; exact GOwn.nil _ _, k1.out⟩
 | true =>
  have hlw : l = woL (a1, a2) (b1, b2) ++ woR (a1, a2) (b1, b2) := by rw [hl]; unfold wout; rw [hok]; rfl
  rw [hok] at hE
  rw [hE] at he ⊢
  replace hE := Lh hE; replace hl := Lh hl
  have hok' : [(a1, a2), (b1, b2)].all okG = true := by simpa using hok
  replace hok := Lh hok; replace hok' := Lh hok'
  have h1 := fun W => ends1_any a2 b1 W
  have h2 := fun W => ends1_any b2 a2 W
  have hmx := fun W ts t => max_str (P := Tryz.prog) W ts t a1 b2
  cases hlt : lessB a1 b1 with
  | false =>
   have hlf : woL (a1, a2) (b1, b2) = [] := by unfold woL; rw [if_neg (by simp [hlt])]
   rw [hlf, List.nil_append] at hlw
   have hq : Op.bytesLess a1.toList b1.toList = false := hlt
   replace hlf := Lh hlf; replace hlw := Lh hlw; replace hlt := Lh hlt
   go_enter Tryz.func76, Tryz.ntmps76
   go_wp2_with (fail)
   rw [← hW0]
   replace hW0 := Lh hW0
   refine he.mono ?_
   rintro e w1 ⟨v, rfl, hv, c1⟩
   obtain rfl := hv hok'.out
   have k1 := Lh (k0.out.trans (c1.mono k0.out.size))
   have q0' := Lh ((c1.block _ (blkX q0.out)).trans q0.out)
   have q1' := Lh ((c1.block _ (blkX q1.out)).trans q1.out)
   clear c1 he
   have x0 := blkX q0'.out; have x1 := blkX q1'.out; have r0 := blkC q0'.out 0; have r1 := blkC q0'.out 1; have t0 := blkC q1'.out 0; have t1 := blkC q1'.out 1
   simp only [List.getElem?_toArray, List.getElem?_cons_zero, List.getElem?_cons_succ] at r0 r1 t0 t1
   go_wp2_with (fail)
   have ho0 := Lh (GOwn.nil w.heap.size w1)
   refine (h2 _).mono ?_
   rintro e v9 ⟨rfl, rfl⟩
   by_cases hz : cmpX b2 a2 < 0
   ·
    have hlr : l = [] ++ [(maxB a1 b2, a2)] := by rw [hlw.out]; unfold woR; simp [hz]
    replace hlr := Lh hlr
    obtain ⟨Zr, hZr⟩ : ∃ Z, Z = v9.alloc (.cells #[.string (maxB a1 b2), .string a2] 32) := ⟨_, rfl⟩
    have bZr : Below v9.heap.size v9 Zr := by rw [hZr]; exact (Below.refl _ _).alloc (Nat.le_refl _) _
    have qZr : Zr.heap[v9.heap.size]? = some (.cells #[.string (maxB a1 b2), .string a2] 32 (0, 0)) := by rw [hZr]; exact hpNew _ _
    obtain ⟨A2, c2, V, hrun, ho2, hgr, hat⟩ := GOwn.app (x := (maxB a1 b2, a2)) (ho0.out.keep bZr) (Nat.le_trans k1.out.size bZr.size) qZr (by omega)
    have kV := (k1.out.trans (bZr.mono k1.out.size)).grown hgr (Nat.le_trans k1.out.size bZr.size) (fun g e => (own_row (ho0.out.keep bZr) g e).1)
    rw [hZr] at hrun
    replace kV := Lh kV; replace ho2 := Lh ho2; replace qZr := Lh qZr; replace bZr := Lh bZr; replace hZr := Lh hZr
    clear hgr hat
    go_wp2_with (fail)
    refine bodyPost_ret (results_tmp2 rfl _ _ _) rfl ?_
    exact ⟨A2, _, c2, rfl, by rw [hlr.out]; rfl, by rw [hlr.out]; exact ho2.out, kV.out⟩
   ·
    have hlr : l = [] := by rw [hlw.out]; unfold woR; simp [hz]
    replace hlr := Lh hlr
    go_wp2_with (fail)
    refine bodyPost_ret (results_tmp2 rfl _ _ _) rfl ?_
    exact ⟨none, _, 0, rfl, by rw [hlr.out]; rfl, by rw [hlr.out]; exact ho0.out, k1.out⟩
  | true =>
   have hq : Op.bytesLess a1.toList b1.toList = true := hlt
   by_cases hy : cmpX a2 b1 < 0
   ·
    have hlf : woL (a1, a2) (b1, b2) = [(a1, a2)] := by unfold woL; rw [if_pos hlt, if_pos hy]
    rw [hlf] at hlw
    replace hlf := Lh hlf; replace hlw := Lh hlw; replace hlt := Lh hlt
    go_enter Tryz.func76, Tryz.ntmps76
    go_wp2_with (fail)
    rw [← hW0]
    replace hW0 := Lh hW0
    refine he.mono ?_
    rintro e w1 ⟨v, rfl, hv, c1⟩
    obtain rfl := hv hok'.out
    have k1 := Lh (k0.out.trans (c1.mono k0.out.size))
    have q0' := Lh ((c1.block _ (blkX q0.out)).trans q0.out)
    have q1' := Lh ((c1.block _ (blkX q1.out)).trans q1.out)
    clear c1 he
    have x0 := blkX q0'.out; have x1 := blkX q1'.out; have r0 := blkC q0'.out 0; have r1 := blkC q0'.out 1; have t0 := blkC q1'.out 0; have t1 := blkC q1'.out 1
    simp only [List.getElem?_toArray, List.getElem?_cons_zero, List.getElem?_cons_succ] at r0 r1 t0 t1
    go_wp2_with (fail)
    refine (h1 _).mono ?_
    rintro e u ⟨rfl, rfl⟩
    obtain ⟨Zl, hZl⟩ : ∃ Z, Z = w1.alloc (.cells #[.string a1, .string a2] 32) := ⟨_, rfl⟩
    have bZl : Below w1.heap.size w1 Zl := by rw [hZl]; exact (Below.refl _ _).alloc (Nat.le_refl _) _
    have qZl : Zl.heap[w1.heap.size]? = some (.cells #[.string a1, .string a2] 32 (0, 0)) := by rw [hZl]; exact hpNew _ _
    obtain ⟨Zm, hZm⟩ : ∃ Z, Z = Zl.alloc (.cells #[.string a1, .string a2] 32) := ⟨_, rfl⟩
    have bZm : Below Zl.heap.size Zl Zm := by rw [hZm]; exact (Below.refl _ _).alloc (Nat.le_refl _) _
    have qZm : Zm.heap[Zl.heap.size]? = some (.cells #[.string a1, .string a2] 32 (0, 0)) := by rw [hZm]; exact hpNew _ _
    obtain ⟨A1, c1, V, hrun, ho1, hgr, hat⟩ := GOwn.app (x := (a1, a2)) ((GOwn.nil w.heap.size Zm)) (Nat.le_trans (Nat.le_trans k1.out.size bZl.size) bZm.size) qZm (by omega)
    have kM := k1.out.trans ((bZl.trans (bZm.mono bZl.size)).mono k1.out.size)
    have kV := kM.grown hgr kM.size (fun g e => by cases e)
    have z0 : Zm.heap[w.heap.size]? = _ := ((bZl.trans (bZm.mono bZl.size)).block _ (blkX q0'.out)).trans q0'.out
    have z1 : Zm.heap[w.heap.size + 1]? = _ := ((bZl.trans (bZm.mono bZl.size)).block _ (blkX q1'.out)).trans q1'.out
    have q0v := (hgr.block _ (blkX z0) (by simp [rowOf])).trans z0
    have q1v := (hgr.block _ (blkX z1) (by simp [rowOf])).trans z1
    rw [hZm, hZl] at hrun
    simp only [World.size_alloc] at hrun
    replace kV := Lh kV; replace ho1 := Lh ho1; replace hZl := Lh hZl; replace hZm := Lh hZm; replace kM := Lh kM; replace qZl := Lh qZl; replace qZm := Lh qZm; replace bZl := Lh bZl; replace bZm := Lh bZm; replace z0 := Lh z0; replace z1 := Lh z1; replace q0v := Lh q0v; replace q1v := Lh q1v
    clear hgr hat
    have xv0 := blkX q0v.out; have xv1 := blkX q1v.out; have rv0 := blkC q0v.out 0; have rv1 := blkC q0v.out 1; have tv0 := blkC q1v.out 0; have tv1 := blkC q1v.out 1
    simp only [List.getElem?_toArray, List.getElem?_cons_zero, List.getElem?_cons_succ] at rv0 rv1 tv0 tv1
    go_wp2_with (fail)
    refine (h2 _).mono ?_
    rintro e v9 ⟨rfl, rfl⟩
    by_cases hz : cmpX b2 a2 < 0
    ·
     have hlr : l = [(a1, a2)] ++ [(maxB a1 b2, a2)] := by rw [hlw.out]; unfold woR; simp [hz]
     replace hlr := Lh hlr
     obtain ⟨Zr, hZr⟩ : ∃ Z, Z = v9.alloc (.cells #[.string (maxB a1 b2), .string a2] 32) := ⟨_, rfl⟩
     have bZr : Below v9.heap.size v9 Zr := by rw [hZr]; exact (Below.refl _ _).alloc (Nat.le_refl _) _
     have qZr : Zr.heap[v9.heap.size]? = some (.cells #[.string (maxB a1 b2), .string a2] 32 (0, 0)) := by rw [hZr]; exact hpNew _ _
     obtain ⟨A2, c2, V, hrun, ho2, hgr, hat⟩ := GOwn.app (x := (maxB a1 b2, a2)) (ho1.out.keep bZr) (Nat.le_trans kV.out.size bZr.size) qZr (by omega)
     have kV := (kV.out.trans (bZr.mono kV.out.size)).grown hgr (Nat.le_trans kV.out.size bZr.size) (fun g e => (own_row (ho1.out.keep bZr) g e).1)
     rw [hZr] at hrun
     replace kV := Lh kV; replace ho2 := Lh ho2; replace qZr := Lh qZr; replace bZr := Lh bZr; replace hZr := Lh hZr
     clear hgr hat
     go_wp2_with (fail)
     refine bodyPost_ret (results_tmp2 rfl _ _ _) rfl ?_
     exact ⟨A2, _, c2, rfl, by rw [hlr.out]; rfl, by rw [hlr.out]; exact ho2.out, kV.out⟩
    ·
     have hlr : l = [(a1, a2)] := by rw [hlw.out]; unfold woR; simp [hz]
     replace hlr := Lh hlr
     go_wp2_with (fail)
     refine bodyPost_ret (results_tmp2 rfl _ _ _) rfl ?_
     exact ⟨A1, _, c1, rfl, by rw [hlr.out]; rfl, by rw [hlr.out]; exact ho1.out, kV.out⟩
   ·
    have hlf : woL (a1, a2) (b1, b2) = [(a1, b1)] := by unfold woL; rw [if_pos hlt, if_neg hy]
    rw [hlf] at hlw
    replace hlf := Lh hlf; replace hlw := Lh hlw; replace hlt := Lh hlt
    go_enter Tryz.func76, Tryz.ntmps76
    go_wp2_with (fail)
    rw [← hW0]
    replace hW0 := Lh hW0
    refine he.mono ?_
    rintro e w1 ⟨v, rfl, hv, c1⟩
    obtain rfl := hv hok'.out
    have k1 := Lh (k0.out.trans (c1.mono k0.out.size))
    have q0' := Lh ((c1.block _ (blkX q0.out)).trans q0.out)
    have q1' := Lh ((c1.block _ (blkX q1.out)).trans q1.out)
    clear c1 he
    have x0 := blkX q0'.out; have x1 := blkX q1'.out; have r0 := blkC q0'.out 0; have r1 := blkC q0'.out 1; have t0 := blkC q1'.out 0; have t1 := blkC q1'.out 1
    simp only [List.getElem?_toArray, List.getElem?_cons_zero, List.getElem?_cons_succ] at r0 r1 t0 t1
    go_wp2_with (fail)
    refine (h1 _).mono ?_
    rintro e u ⟨rfl, rfl⟩
    obtain ⟨Zl, hZl⟩ : ∃ Z, Z = w1.alloc (.cells #[.string a1, .string b1] 32) := ⟨_, rfl⟩
    have bZl : Below w1.heap.size w1 Zl := by rw [hZl]; exact (Below.refl _ _).alloc (Nat.le_refl _) _
    have qZl : Zl.heap[w1.heap.size]? = some (.cells #[.string a1, .string b1] 32 (0, 0)) := by rw [hZl]; exact hpNew _ _
    obtain ⟨Zm, hZm⟩ : ∃ Z, Z = Zl.alloc (.cells #[.string a1, .string b1] 32) := ⟨_, rfl⟩
    have bZm : Below Zl.heap.size Zl Zm := by rw [hZm]; exact (Below.refl _ _).alloc (Nat.le_refl _) _
    have qZm : Zm.heap[Zl.heap.size]? = some (.cells #[.string a1, .string b1] 32 (0, 0)) := by rw [hZm]; exact hpNew _ _
    obtain ⟨A1, c1, V, hrun, ho1, hgr, hat⟩ := GOwn.app (x := (a1, b1)) ((GOwn.nil w.heap.size Zm)) (Nat.le_trans (Nat.le_trans k1.out.size bZl.size) bZm.size) qZm (by omega)
    have kM := k1.out.trans ((bZl.trans (bZm.mono bZl.size)).mono k1.out.size)
    have kV := kM.grown hgr kM.size (fun g e => by cases e)
    have z0 : Zm.heap[w.heap.size]? = _ := ((bZl.trans (bZm.mono bZl.size)).block _ (blkX q0'.out)).trans q0'.out
    have z1 : Zm.heap[w.heap.size + 1]? = _ := ((bZl.trans (bZm.mono bZl.size)).block _ (blkX q1'.out)).trans q1'.out
    have q0v := (hgr.block _ (blkX z0) (by simp [rowOf])).trans z0
    have q1v := (hgr.block _ (blkX z1) (by simp [rowOf])).trans z1
    rw [hZm, hZl] at hrun
    simp only [World.size_alloc] at hrun
    replace kV := Lh kV; replace ho1 := Lh ho1; replace hZl := Lh hZl; replace hZm := Lh hZm; replace kM := Lh kM; replace qZl := Lh qZl; replace qZm := Lh qZm; replace bZl := Lh bZl; replace bZm := Lh bZm; replace z0 := Lh z0; replace z1 := Lh z1; replace q0v := Lh q0v; replace q1v := Lh q1v
    clear hgr hat
    have xv0 := blkX q0v.out; have xv1 := blkX q1v.out; have rv0 := blkC q0v.out 0; have rv1 := blkC q0v.out 1; have tv0 := blkC q1v.out 0; have tv1 := blkC q1v.out 1
    simp only [List.getElem?_toArray, List.getElem?_cons_zero, List.getElem?_cons_succ] at rv0 rv1 tv0 tv1
    go_wp2_with (fail)
    refine (h2 _).mono ?_
    rintro e v9 ⟨rfl, rfl⟩
    by_cases hz : cmpX b2 a2 < 0
    ·
     have hlr : l = [(a1, b1)] ++ [(maxB a1 b2, a2)] := by rw [hlw.out]; unfold woR; simp [hz]
     replace hlr := Lh hlr
     obtain ⟨Zr, hZr⟩ : ∃ Z, Z = v9.alloc (.cells #[.string (maxB a1 b2), .string a2] 32) := ⟨_, rfl⟩
     have bZr : Below v9.heap.size v9 Zr := by rw [hZr]; exact (Below.refl _ _).alloc (Nat.le_refl _) _
     have qZr : Zr.heap[v9.heap.size]? = some (.cells #[.string (maxB a1 b2), .string a2] 32 (0, 0)) := by rw [hZr]; exact hpNew _ _
     obtain ⟨A2, c2, V, hrun, ho2, hgr, hat⟩ := GOwn.app (x := (maxB a1 b2, a2)) (ho1.out.keep bZr) (Nat.le_trans kV.out.size bZr.size) qZr (by omega)
     have kV := (kV.out.trans (bZr.mono kV.out.size)).grown hgr (Nat.le_trans kV.out.size bZr.size) (fun g e => (own_row (ho1.out.keep bZr) g e).1)
     rw [hZr] at hrun
     replace kV := Lh kV; replace ho2 := Lh ho2; replace qZr := Lh qZr; replace bZr := Lh bZr; replace hZr := Lh hZr
     clear hgr hat
     go_wp2_with (fail)
     refine bodyPost_ret (results_tmp2 rfl _ _ _) rfl ?_
     exact ⟨A2, _, c2, rfl, by rw [hlr.out]; rfl, by rw [hlr.out]; exact ho2.out, kV.out⟩
    ·
     have hlr : l = [(a1, b1)] := by rw [hlw.out]; unfold woR; simp [hz]
     replace hlr := Lh hlr
     go_wp2_with (fail)
     refine bodyPost_ret (results_tmp2 rfl _ _ _) rfl ?_
     exact ⟨A1, _, c1, rfl, by rw [hlr.out]; rfl, by rw [hlr.out]; exact ho1.out, kV.out⟩

def insB (a b : Rg) : Bool := okG a && okG b && (wout a b).isEmpty
set_option maxHeartbeats 8000000 in
theorem inside_any (a1 a2 b1 b2 : ByteArray) (w : World) (ha : szG (a1, a2)) (hb : szG (b1, b2)) :
  Calls Tryz.prog 74 #[.agg #[.string a1, .string a2], .agg #[.string b1, .string b2]] w fun e w' => ∃ z, e = .returned (.tuple #[.bool (insB (a1, a2) (b1, b2)), .int .i64 z]) ∧ (insB (a1, a2) (b1, b2) = true → z = 0) ∧ Below w.heap.size w w' := by
 obtain ⟨W0, hW0⟩ : ∃ W, W = (w.alloc (.cells #[.string a1, .string a2] 32)).alloc (.cells #[.string b1, .string b2] 32) := ⟨_, rfl⟩
 have k0 : Below w.heap.size w W0 := by rw [hW0]; exact ((Below.refl _ w).alloc (Nat.le_refl _) _).alloc (by simp) _
 have hw := without_any a1 a2 b1 b2 W0 ha hb
 have hE : endsE [(a1, a2), (b1, b2)] = if okG (a1, a2) && okG (b1, b2) then 0 else 2 := by unfold endsE; simp
 obtain ⟨r, hr⟩ : ∃ r, r = insB (a1, a2) (b1, b2) := ⟨_, rfl⟩
 rw [← hr]
 replace k0 := Lh k0; replace ha := Lh ha; replace hb := Lh hb
 cases hok : (okG (a1, a2) && okG (b1, b2)) with
 | false =>
  have hr0 : r = false := by rw [hr]; unfold insB; rw [hok]; rfl
  rw [hok] at hE
  rw [hE] at hw
  replace hE := Lh hE; replace hok := Lh hok; replace hr := Lh hr
  subst hr0
  go_enter Tryz.func74, Tryz.ntmps74
  go_wp2_with (fail)
  rw [← hW0]
  replace hW0 := Lh hW0
  refine hw.mono ?_
  rintro e w1 ⟨A, n, c, rfl, hl, ho, b1⟩
  have k1 := Lh (k0.out.trans (b1.mono k0.out.size))
  replace hl := Lh hl; replace ho := Lh ho
  clear b1 hw
  go_wp2_with (fail)
  refine bodyPost_ret (results_tmp2 rfl _ _ _) rfl ?_
  refine ⟨2, ?_, ?_, k1.out⟩
  ·
   rfl
  ·
   intro h; cases h
 | true =>
  have hr1 : r = (wout (a1, a2) (b1, b2)).isEmpty := by rw [hr]; unfold insB; rw [hok]; rfl
  rw [hok] at hE
  rw [hE] at hw
  replace hE := Lh hE; replace hok := Lh hok; replace hr := Lh hr; replace hr1 := Lh hr1
  go_enter Tryz.func74, Tryz.ntmps74
  go_wp2_with (fail)
  rw [← hW0]
  replace hW0 := Lh hW0
  refine hw.mono ?_
  rintro e w1 ⟨A, n, c, rfl, hl, ho, b1⟩
  have k1 := Lh (k0.out.trans (b1.mono k0.out.size))
  replace ho := Lh ho
  clear b1 hw
  by_cases hn : n = 0
  ·
   subst hn
   have hr2 : r = true := by rw [hr1.out, List.isEmpty_iff]; exact List.eq_nil_of_length_eq_zero hl
   subst hr2
   replace hl := Lh hl
   go_wp2_with (fail)
   refine bodyPost_ret (results_tmp2 rfl _ _ _) rfl ?_
   refine ⟨0, ?_, ?_, k1.out⟩
   ·
    rfl
   ·
    first | rfl | (intro _; rfl)
  ·
   have hr2 : r = false := by
    rw [hr1.out, Bool.eq_false_iff, Ne, List.isEmpty_iff]
    intro q; rw [q] at hl; exact hn hl.symm
   subst hr2
   have hni : ((n : Int) == 0) = false := by simp; omega
   replace hl := Lh hl
   go_wp2_with (fail)
   refine bodyPost_ret (results_tmp2 rfl _ _ _) rfl ?_
   refine ⟨0, ?_, ?_, k1.out⟩
   ·
    rfl
   ·
    intro h; cases h
end Go.Proofs.YtgnjnpddehdmcaaGreatDoor

namespace Go.Proofs.YtgnjnpddehdmcaaGreatDoor
open Go.RowKit Go.Shelf
set_option linter.unusedSimpArgs false
set_option linter.unusedVariables false
set_option linter.unusedSectionVars false
set_option maxRecDepth 10000
def idxOf (p : Rg → Bool) (l : List Rg) : Int := match l.findIdx? p with | some i => (i : Int) | none => -1
theorem idxOf_none {p : Rg → Bool} {l : List Rg} (h : ∀ x ∈ l, p x = false) : idxOf p l = -1 := by
 unfold idxOf
 rw [List.findIdx?_eq_none_iff.2 h]
theorem idxOf_at {p : Rg → Bool} {l : List Rg} {k : Nat} {x : Rg} (hx : l[k]? = some x) (hp : p x = true) (hb : ∀ y ∈ l.take k, p y = false) : idxOf p l = k := by
 unfold idxOf
 have hk := (List.getElem?_eq_some_iff.1 hx).1
 have : l.findIdx? p = some k := by
  rw [List.findIdx?_eq_some_iff_getElem]
  refine ⟨hk, ?_, fun j hj => ?_⟩
  ·
   rw [(List.getElem?_eq_some_iff.1 hx).2]; exact hp
  ·
   rw [Bool.not_eq_true]
   exact hb _ (List.mem_iff_getElem?.2 ⟨j, by rw [List.getElem?_take, if_pos hj, List.getElem?_eq_getElem (by omega)]⟩)
 rw [this]
theorem idxOf_lt {p : Rg → Bool} {l : List Rg} : decide (0 ≤ idxOf p l) = l.any p := by
 unfold idxOf
 cases h : l.findIdx? p with
 | none =>
  have := List.findIdx?_eq_none_iff.1 h
  rw [show l.any p = false from by rw [List.any_eq_false]; intro x hx; rw [this x hx]; simp]
  rfl
 | some i =>
  have := List.findIdx?_eq_some_iff_getElem.1 h
  obtain ⟨hi, hp, _⟩ := this
  rw [show l.any p = true from List.any_eq_true.2 ⟨_, List.getElem_mem hi, hp⟩]
  simp
def Says (g : Nat) (lb : Array Value) (p : Rg → Bool) (l : List Rg) (w : World) : Prop := ∀ x ∈ l, ∀ W, Below w.heap.size w W → Calls Tryz.prog g (#[.agg #[.string x.1, .string x.2]] ++ lb) W fun e W' => e = .returned (.bool (p x)) ∧ Below W.heap.size W W'
set_option maxHeartbeats 4000000 in
theorem idxG_any {g : Nat} {lb : Array Value} (eg : ∀ args w, (callFunc g args).run Tryz.prog w = .ok (.enter g args) w) {p : Rg → Bool} {l : List Rg} {A : Option Addr} {n c : Nat} {w : World} (hl : GS w A n l) (hn : n ≤ 1000000) (hf : Says g lb p l w) :
  Calls Tryz.prog 72 #[.slice A n c, .func (.func g) #[] lb] w fun e w' => e = .returned (.int .i64 (idxOf p l)) ∧ Below w.heap.size w w' := by
 obtain ⟨z, hz⟩ : ∃ z, z = idxOf p l := ⟨_, rfl⟩
 rw [← hz]
 replace hl := Lh hl; replace hf := Lh hf; replace hz := Lh hz
 go_enter Tryz.func72, Tryz.ntmps72
 go_wp2_with (fail)
 go_loopw [8] (fun i wr => ∃ k : Nat, k ≤ n ∧ i = .int .i64 k ∧ (∀ x ∈ l.take k, p x = false) ∧ Below w.heap.size w wr) (fun i _ => n - (intOf i).toNat)
 case atStart => exact ⟨0, by omega, rfl, by simp, Below.refl _ _⟩
 case round =>
  revert wr
  intro W1 hrel
  obtain ⟨k, hk, rfl, hall, hbel⟩ := hrel
  by_cases hlt : k < n
  ·
   obtain ⟨b, o, x, rfl, hbl, hx, hc⟩ := SL.at_ hl.out hlt
   obtain ⟨xa, xb⟩ := x
   have s0 := (hbel.cell (p := ⟨b, _, none⟩) hbl).trans (hc 0 _ rfl)
   have s1 := (hbel.cell (p := ⟨b, _, none⟩) hbl).trans (hc 1 _ rfl)
   rw [Nat.add_zero] at s0
   clear hc
   have hr := hf.out (xa, xb) (List.mem_of_getElem? hx) W1 hbel
   have hnx : ∀ y, y ∈ l.take (k + 1) → y ∈ l.take k ∨ y = (xa, xb) := fun y hy => by
    rw [List.take_add_one, hx] at hy
    rcases List.mem_append.1 hy with h | h
    ·
     exact .inl h
    ·
     exact .inr (by simpa using h)
   have j0 : (0 : Int) ≤ k := by omega
   have j1 : (k : Int) < (n : Int) := by omega
   replace hbel := Lh hbel; replace hx := Lh hx; replace hall := Lh hall; replace hnx := Lh hnx
   cases hp : p (xa, xb) with
   | true =>
    rw [hp] at hr
    have hzz : z = k := by rw [hz.out]; exact idxOf_at hx.out hp hall.out
    replace hp := Lh hp
    subst hzz
    go_wp2_with (fail)
    refine hr.mono ?_
    rintro e w2 ⟨rfl, b2⟩
    have hb2 := Lh (hbel.out.trans (b2.mono hbel.out.size))
    clear b2 s0 s1 hr
    go_wp2_with (fail)
    go_ret
    exact ⟨rfl, hb2.out⟩
   | false =>
    rw [hp] at hr
    replace hp := Lh hp
    go_wp2_with (fail)
    refine hr.mono ?_
    rintro e w2 ⟨rfl, b2⟩
    have hb2 := Lh (hbel.out.trans (b2.mono hbel.out.size))
    clear b2 s0 s1 hr
    go_wp2_with (fail)
    exact ⟨⟨k + 1, by omega, by go_num, fun y hy => by
     rcases hnx.out y hy with h | rfl
     ·
      exact hall.out y h
     ·
      exact hp.out, hb2.out⟩, by simp [intOf]; omega⟩
  ·
   obtain rfl : k = n := by omega
   have hzz : z = -1 := by rw [hz.out]; exact idxOf_none fun y hy => hall y (by rw [List.take_of_length_le (by have := hl.out.1; omega)]; exact hy)
   have j1 : ¬ (k : Int) < (k : Int) := by omega
   replace hbel := Lh hbel; replace hall := Lh hall
   subst hzz
   go_wp2_with (fail)
   go_ret
   exact ⟨rfl, hbel.out⟩
theorem contG_any {g : Nat} {lb : Array Value} (eg : ∀ args w, (callFunc g args).run Tryz.prog w = .ok (.enter g args) w) {p : Rg → Bool} {l : List Rg} {A : Option Addr} {n c : Nat} {w : World} (hl : GS w A n l) (hn : n ≤ 1000000) (hf : Says g lb p l w) :
  Calls Tryz.prog 87 #[.slice A n c, .func (.func g) #[] lb] w fun e w' => e = .returned (.bool (l.any p)) ∧ Below w.heap.size w w' := by
 have hi := idxG_any (c := c) eg hl hn hf
 rw [← idxOf_lt]
 generalize idxOf p l = z at *
 replace hl := Lh hl; replace hf := Lh hf
 go_enter Tryz.func87, Tryz.ntmps87
 go_wp2_with (fail)
 refine hi.mono ?_
 rintro e w2 ⟨rfl, b2⟩
 have hb2 := Lh b2
 clear b2 hi
 by_cases hz : 0 ≤ z
 ·
  have hd : decide (0 ≤ z) = true := decide_eq_true hz
  clear hd
  go_wp2_with (fail)
  go_ret
  exact ⟨by simp [hz], hb2.out⟩
 ·
  have hd : decide (0 ≤ z) = false := decide_eq_false hz
  clear hd
  go_wp2_with (fail)
  go_ret
  exact ⟨by simp [hz], hb2.out⟩
end Go.Proofs.YtgnjnpddehdmcaaGreatDoor

namespace Go.Proofs.YtgnjnpddehdmcaaGreatDoor
set_option linter.unusedVariables false
open Go.RowKit
structure Chg (S : Nat → Prop) (w w' : World) : Prop where
 os : w'.os = w.os
 tape : w'.tape = w.tape
 output : w'.output = w.output
 size : w.heap.size ≤ w'.heap.size
 block : ∀ k, k < w.heap.size → ¬ S k → w'.heap[k]? = w.heap[k]?
section
variable {S S' : Nat → Prop} {a w w' w'' : World}
theorem Chg.refl (S : Nat → Prop) (w : World) : Chg S w w := ⟨rfl, rfl, rfl, Nat.le_refl _, fun _ _ _ => rfl⟩
theorem Chg.trans (h : Chg S w w') (h' : Chg S' w' w'') (hS : ∀ k, k < w.heap.size → S' k → S k) : Chg S w w'' :=
 ⟨h'.os.trans h.os, h'.tape.trans h.tape, h'.output.trans h.output, Nat.le_trans h.size h'.size,
  fun k hk hn => (h'.block k (Nat.lt_of_lt_of_le hk h.size) fun q => hn (hS k hk q)).trans (h.block k hk hn)⟩
theorem Chg.of_below (h : Below w.heap.size w w') (S : Nat → Prop) : Chg S w w' := ⟨h.os, h.tape, h.output, h.size, fun k hk _ => h.block k hk⟩
theorem Chg.of_grown {row : Option Nat} (h : w.grownBy w' row) (hS : ∀ k, row = some k → S k) : Chg S w w' :=
 ⟨h.os, h.tape, h.output, h.size, fun k hk hn => h.block k hk fun e => hn (hS k e.symm)⟩
theorem Chg.below {B : Nat} (h : Chg S w w') (hB : B ≤ w.heap.size) (hS : ∀ k, k < B → ¬ S k) : Below B w w' :=
 ⟨h.os, h.tape, h.output, h.size, fun k hk => h.block k (Nat.lt_of_lt_of_le hk hB) (hS k hk)⟩
theorem Chg.belowAfter {B : Nat} (h0 : Below B a w) (h : Chg S w w') (hB : B ≤ w.heap.size) (hS : ∀ k, k < B → ¬ S k) : Below B a w' := h0.trans (h.below hB hS)
theorem Chg.drew (h : Chg S a w) : Chg S a w.drew := ⟨h.os, h.tape, h.output, h.size, h.block⟩
theorem Chg.drewN (h : Chg S a w) (n : Nat) : Chg S a (w.drewN n) := ⟨h.os, h.tape, h.output, h.size, h.block⟩
theorem Chg.alloc (h : Chg S a w) (o : Obj) : Chg S a (w.alloc o) :=
 ⟨h.os, h.tape, h.output, Nat.le_trans h.size (by simp), fun k hk hn => (Below.heap_alloc w o k (Nat.lt_of_lt_of_le hk h.size)).trans (h.block k hk hn)⟩
theorem Chg.setCell (h : Chg S a w) {p : Addr} (hp : p.block < a.heap.size → S p.block) (u : Value) : Chg S a (w.setCell p u) :=
 ⟨h.os, h.tape, h.output, by simpa [World.setCell] using h.size, fun k hk hn => (Below.heap_setCell w p u k (by rintro rfl; exact hn (hp hk))).trans (h.block k hk hn)⟩
theorem Chg.thenB (h : Chg S a w) (h' : Below w.heap.size w w') : Chg S a w' := h.trans (Chg.of_below h' S) fun _ _ q => q
end

end Go.Proofs.YtgnjnpddehdmcaaGreatDoor
