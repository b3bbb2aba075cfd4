/- ranges.Meet. -/
import Derived.Test.YtkpfkabdodnooaaGreatDoorHasG
import Derived.Lib.MinMaxS
namespace Go.Proofs.YtkpfkabdodnooaaGreatDoor
open Go.RowKit Go.Shelf
set_option linter.unusedSimpArgs false
set_option linter.unusedVariables false
set_option linter.unusedSectionVars false
set_option maxRecDepth 10000
def maxB (a b : ByteArray) : ByteArray := if lessB a b then b else a
def meetT (a b : Rg) : Rg := (maxB a.1 b.1, if cmpX b.2 a.2 < 0 then b.2 else a.2)
def meetB (a b : Rg) : Bool := okG a && okG b && okG (meetT a b)
theorem max_str {P : Program} (w : World) (ts : Array TypeId) (t : TypeId) (x y : ByteArray) : (Builtin.max_ ts t #[.string x, .string y]).run P w = .ok (.string (maxB x y)) w := by
  rw [Lib.run_max_strs]
  congr 2
  unfold maxB Lib.maxS
  simp only [less_iff, ByteArray.toList_eq]
set_option maxHeartbeats 8000000 in
theorem meet_any (a1 a2 b1 b2 : ByteArray) (w : World) (ha : szG (a1, a2)) (hb : szG (b1, b2)) :
    Calls Tryz.prog 55 #[.agg #[.string a1, .string a2], .agg #[.string b1, .string b2]] w fun e w' => ∃ u1 u2 y, e = .returned (.tuple #[.agg #[.string u1, .string u2], .bool (meetB (a1, a2) (b1, b2)), y]) ∧ Below w.heap.size w w' := by
  obtain ⟨W0, hW0⟩ : ∃ W, W = (((w.alloc (.cells #[.string a1, .string a2] 25)).alloc (.cells #[.string b1, .string b2] 25)).alloc (.cells #[.string ⟨#[]⟩, .string ⟨#[]⟩] 25)).alloc (.cells #[.string a1, .string a2, .string b1, .string b2] 25) := ⟨_, rfl⟩
  have k0 : Below w.heap.size w W0 := by rw [hW0]; exact ((((Below.refl _ w).alloc (Nat.le_refl _) _).alloc (by simp) _).alloc (by simp <;> omega) _).alloc (by simp <;> omega) _
  have q0 : W0.heap[w.heap.size]? = some (.cells #[.string a1, .string a2] 25 (0, 0)) := by rw [hW0]; repeat (first | exact hpNewAt _ (by simp) | exact hpNew _ _ | refine (hpOld _ (by simp <;> omega)).trans ?_)
  have q1 : W0.heap[w.heap.size + 1]? = some (.cells #[.string b1, .string b2] 25 (0, 0)) := by rw [hW0]; repeat (first | exact hpNewAt _ (by simp) | exact hpNew _ _ | refine (hpOld _ (by simp <;> omega)).trans ?_)
  have q2 : W0.heap[w.heap.size + 1 + 1]? = some (.cells #[.string ⟨#[]⟩, .string ⟨#[]⟩] 25 (0, 0)) := by rw [hW0]; repeat (first | exact hpNewAt _ (by simp) | exact hpNew _ _ | refine (hpOld _ (by simp <;> omega)).trans ?_)
  have q3 : W0.heap[w.heap.size + 1 + 1 + 1]? = some (.cells #[.string a1, .string a2, .string b1, .string b2] 25 (0, 0)) := by rw [hW0]; repeat (first | exact hpNewAt _ (by simp) | exact hpNew _ _ | refine (hpOld _ (by simp <;> omega)).trans ?_)
  have he := ends_many [(a1, a2), (b1, b2)] (some ⟨w.heap.size + 1 + 1 + 1, 0, none⟩) 2 2 W0 (gs_two q3) (by omega) (by intro x hx; simp at hx; rcases hx with rfl | rfl; exact ha; exact hb)
  have hE : endsE [(a1, a2), (b1, b2)] = if okG (a1, a2) && okG (b1, b2) then 0 else 2 := by unfold endsE; simp
  replace q0 := Lib.hid q0; replace q1 := Lib.hid q1; replace q2 := Lib.hid q2; replace q3 := Lib.hid q3; replace k0 := Lib.hid k0
  replace ha := Lib.hid ha; replace hb := Lib.hid hb
  cases hok : (okG (a1, a2) && okG (b1, b2)) with
  | false =>
    have hm : meetB (a1, a2) (b1, b2) = false := by unfold meetB; rw [hok]; rfl
    rw [hok] at hE
    rw [hE] at he
    replace hE := Lib.hid hE; replace hok := Lib.hid hok
    rw [hm]
    replace hm := Lib.hid hm
    go_enter Tryz.func55, Tryz.ntmps55
    go_wp2_with (fail)
    rw [← hW0]
    replace hW0 := Lib.hid hW0
    refine he.mono ?_
    rintro e w1 ⟨v, rfl, -, c1⟩
    have k1 := Lib.hid (k0.out.trans (c1.mono k0.out.size))
    have q2' := (c1.block _ (blkX q2.out)).trans q2.out
    have s0 := blkC q2' 0; have s1 := blkC q2' 1; have sf := blkF q2'; have sx := blkX q2'
    simp only [List.getElem?_toArray, List.getElem?_cons_zero, List.getElem?_cons_succ] at s0 s1
    replace q2' := Lib.hid q2'
    clear c1 he
    go_wp2_with (fail)
    refine bodyPost_ret (by simp [results, Tryz.results55, go_sem, *]; try with_reducible rfl) rfl ?_
    exact ⟨_, _, _, rfl, (k1.out.setCell (p := ⟨w.heap.size + 1 + 1, 0, none⟩) (by simp only; omega) _).setCell (p := ⟨w.heap.size + 1 + 1, 1, none⟩) (by simp only; omega) _⟩
  | true =>
    have hm : meetB (a1, a2) (b1, b2) = okG (meetT (a1, a2) (b1, b2)) := by unfold meetB; rw [hok]; rfl
    rw [hok] at hE
    rw [hE] at he
    replace hE := Lib.hid hE
    obtain ⟨r, hr⟩ : ∃ r, r = okG (meetT (a1, a2) (b1, b2)) := ⟨_, rfl⟩
    rw [hm, ← hr]
    replace hm := Lib.hid hm; replace hr := Lib.hid hr
    have hok' : [(a1, a2), (b1, b2)].all okG = true := by simpa using hok
    replace hok := Lib.hid hok; replace hok' := Lib.hid hok'
    have hmx := fun W ts t => max_str (P := Tryz.prog) W ts t a1 b1
    have h1 := fun W => ends1_any b2 a2 W
    go_enter Tryz.func55, Tryz.ntmps55
    go_wp2_with (fail)
    rw [← hW0]
    replace hW0 := Lib.hid hW0
    refine he.mono ?_
    rintro e w1 ⟨v, rfl, hv, c1⟩
    obtain rfl := hv hok'.out
    have k1 := Lib.hid (k0.out.trans (c1.mono k0.out.size))
    have q0' := (c1.block _ (blkX q0.out)).trans q0.out
    have q1' := (c1.block _ (blkX q1.out)).trans q1.out
    have q2' := (c1.block _ (blkX q2.out)).trans q2.out
    have x0 := blkX q0'; have x1 := blkX q1'; have r0 := blkC q0' 0; have r1 := blkC q0' 1; have t0 := blkC q1' 0; have t1 := blkC q1' 1
    have s0 := blkC q2' 0; have s1 := blkC q2' 1; have sf := blkF q2'; have sx := blkX q2'
    simp only [List.getElem?_toArray, List.getElem?_cons_zero, List.getElem?_cons_succ] at s0 s1 r0 r1 t0 t1
    replace q2' := Lib.hid q2'; replace q1' := Lib.hid q1'; replace q0' := Lib.hid q0'
    clear c1 he
    go_wp2_with (fail)
    refine (h1 _).mono ?_
    rintro e w2 ⟨rfl, rfl⟩
    have hms : (maxB a1 b1).size ≤ 140737488355328 := by unfold maxB; split; exact hb.out.1; exact ha.out.1
    replace hms := Lib.hid hms
    by_cases hz : cmpX b2 a2 < 0
    · have hT : r = okG (maxB a1 b1, b2) := by rw [hr.out]; unfold meetT; rw [if_pos hz]
      have hck := fun W => rng_any (maxB a1 b1) b2 W hms.out hb.out.2
      obtain ⟨Z, hZ⟩ : ∃ Z, Z = w1.alloc (.cells #[.string (maxB a1 b1), .string b2] 25) := ⟨_, rfl⟩
      have bZ : Below w1.heap.size w1 Z := by rw [hZ]; exact (Below.refl _ _).alloc (Nat.le_refl _) _
      have qZ : Z.heap[w1.heap.size]? = some (.cells #[.string (maxB a1 b1), .string b2] 25 (0, 0)) := by rw [hZ]; exact hpNew _ _
      have kZ := Lib.hid (k1.out.trans (bZ.mono k1.out.size))
      have q2Z := (bZ.block _ (blkX q2'.out)).trans q2'.out
      replace q2Z := Lib.hid q2Z; replace qZ := Lib.hid qZ; replace bZ := Lib.hid bZ; replace hr := Lib.hid hr
      cases r with
      | true =>
        rw [takeC_ok hT.symm] at hck
        replace hT := Lib.hid hT
        go_wp2_with (fail)
        rw [← hZ]; replace hZ := Lib.hid hZ
        refine (hck _).mono ?_
        rintro e w3 ⟨rfl, c3⟩
        have k3 := Lib.hid (kZ.out.trans (c3.mono kZ.out.size))
        have z' := (c3.block _ (blkX qZ.out)).trans qZ.out
        have q2w := (c3.block _ (blkX q2Z.out)).trans q2Z.out
        have r0 := blkC z' 0; have r1 := blkC z' 1; have xz := blkX z'
        have s0 := blkC q2w 0; have s1 := blkC q2w 1; have sf := blkF q2w; have sx := blkX q2w
        simp only [List.getElem?_toArray, List.getElem?_cons_zero, List.getElem?_cons_succ] at s0 s1 r0 r1
        replace z' := Lib.hid z'; replace q2w := Lib.hid q2w
        clear c3
        go_wp2_with (fail)
        refine bodyPost_ret (by simp [results, Tryz.results55, go_sem, *]; try with_reducible rfl) rfl ?_
        exact ⟨_, _, _, rfl, (k3.out.setCell (p := ⟨w.heap.size + 1 + 1, 0, none⟩) (by simp only; omega) _).setCell (p := ⟨w.heap.size + 1 + 1, 1, none⟩) (by simp only; omega) _⟩
      | false =>
        rw [takeC_bad hT.symm] at hck
        replace hT := Lib.hid hT
        go_wp2_with (fail)
        rw [← hZ]; replace hZ := Lib.hid hZ
        refine (hck _).mono ?_
        rintro e w3 ⟨rfl, c3⟩
        have k3 := Lib.hid (kZ.out.trans (c3.mono kZ.out.size))
        have z' := (c3.block _ (blkX qZ.out)).trans qZ.out
        have q2w := (c3.block _ (blkX q2Z.out)).trans q2Z.out
        have r0 := blkC z' 0; have r1 := blkC z' 1; have xz := blkX z'
        have s0 := blkC q2w 0; have s1 := blkC q2w 1; have sf := blkF q2w; have sx := blkX q2w
        simp only [List.getElem?_toArray, List.getElem?_cons_zero, List.getElem?_cons_succ] at s0 s1 r0 r1
        replace z' := Lib.hid z'; replace q2w := Lib.hid q2w
        clear c3
        go_wp2_with (fail)
        refine bodyPost_ret (by simp [results, Tryz.results55, go_sem, *]; try with_reducible rfl) rfl ?_
        exact ⟨_, _, _, rfl, (k3.out.setCell (p := ⟨w.heap.size + 1 + 1, 0, none⟩) (by simp only; omega) _).setCell (p := ⟨w.heap.size + 1 + 1, 1, none⟩) (by simp only; omega) _⟩
    · have hT : r = okG (maxB a1 b1, a2) := by rw [hr.out]; unfold meetT; rw [if_neg hz]
      have hck := fun W => rng_any (maxB a1 b1) a2 W hms.out ha.out.2
      obtain ⟨Z, hZ⟩ : ∃ Z, Z = w1.alloc (.cells #[.string (maxB a1 b1), .string a2] 25) := ⟨_, rfl⟩
      have bZ : Below w1.heap.size w1 Z := by rw [hZ]; exact (Below.refl _ _).alloc (Nat.le_refl _) _
      have qZ : Z.heap[w1.heap.size]? = some (.cells #[.string (maxB a1 b1), .string a2] 25 (0, 0)) := by rw [hZ]; exact hpNew _ _
      have kZ := Lib.hid (k1.out.trans (bZ.mono k1.out.size))
      have q2Z := (bZ.block _ (blkX q2'.out)).trans q2'.out
      replace q2Z := Lib.hid q2Z; replace qZ := Lib.hid qZ; replace bZ := Lib.hid bZ; replace hr := Lib.hid hr
      cases r with
      | true =>
        rw [takeC_ok hT.symm] at hck
        replace hT := Lib.hid hT
        go_wp2_with (fail)
        rw [← hZ]; replace hZ := Lib.hid hZ
        refine (hck _).mono ?_
        rintro e w3 ⟨rfl, c3⟩
        have k3 := Lib.hid (kZ.out.trans (c3.mono kZ.out.size))
        have z' := (c3.block _ (blkX qZ.out)).trans qZ.out
        have q2w := (c3.block _ (blkX q2Z.out)).trans q2Z.out
        have r0 := blkC z' 0; have r1 := blkC z' 1; have xz := blkX z'
        have s0 := blkC q2w 0; have s1 := blkC q2w 1; have sf := blkF q2w; have sx := blkX q2w
        simp only [List.getElem?_toArray, List.getElem?_cons_zero, List.getElem?_cons_succ] at s0 s1 r0 r1
        replace z' := Lib.hid z'; replace q2w := Lib.hid q2w
        clear c3
        go_wp2_with (fail)
        refine bodyPost_ret (by simp [results, Tryz.results55, go_sem, *]; try with_reducible rfl) rfl ?_
        exact ⟨_, _, _, rfl, (k3.out.setCell (p := ⟨w.heap.size + 1 + 1, 0, none⟩) (by simp only; omega) _).setCell (p := ⟨w.heap.size + 1 + 1, 1, none⟩) (by simp only; omega) _⟩
      | false =>
        rw [takeC_bad hT.symm] at hck
        replace hT := Lib.hid hT
        go_wp2_with (fail)
        rw [← hZ]; replace hZ := Lib.hid hZ
        refine (hck _).mono ?_
        rintro e w3 ⟨rfl, c3⟩
        have k3 := Lib.hid (kZ.out.trans (c3.mono kZ.out.size))
        have z' := (c3.block _ (blkX qZ.out)).trans qZ.out
        have q2w := (c3.block _ (blkX q2Z.out)).trans q2Z.out
        have r0 := blkC z' 0; have r1 := blkC z' 1; have xz := blkX z'
        have s0 := blkC q2w 0; have s1 := blkC q2w 1; have sf := blkF q2w; have sx := blkX q2w
        simp only [List.getElem?_toArray, List.getElem?_cons_zero, List.getElem?_cons_succ] at s0 s1 r0 r1
        replace z' := Lib.hid z'; replace q2w := Lib.hid q2w
        clear c3
        go_wp2_with (fail)
        refine bodyPost_ret (by simp [results, Tryz.results55, go_sem, *]; try with_reducible rfl) rfl ?_
        exact ⟨_, _, _, rfl, (k3.out.setCell (p := ⟨w.heap.size + 1 + 1, 0, none⟩) (by simp only; omega) _).setCell (p := ⟨w.heap.size + 1 + 1, 1, none⟩) (by simp only; omega) _⟩
end Go.Proofs.YtkpfkabdodnooaaGreatDoor
