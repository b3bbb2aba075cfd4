/- What Encode makes of a message. -/
import Derived.Test.YtlinjanflenljaaGreatDoorWrM
import Derived.Test.YtlinjanflenljaaGreatDoorFld
import Derived.Test.YtlinjanflenljaaGreatDoorOrdd
namespace Go.Proofs.YtlinjanflenljaaGreatDoor
open Go.RowKit
set_option linter.unusedSimpArgs false
set_option linter.unusedVariables false
set_option linter.unusedSectionVars false
set_option maxRecDepth 10000
/-- What Encode comes to. -/
def EncTo (w : World) (m : Mg) (e : Ending) (w' : World) : Prop := ∃ A' c', e = .returned (.tuple #[.slice A' (encB m).length c', .int .i64 (encE m)]) ∧ IsBytes w A' c' (encB m) w'
theorem EncTo.err {w w' : World} {m : Mg} {z : Int} (hz : encE m = z) (h0 : z ≠ 0) (hb : Below w.heap.size w w') : EncTo w m (.returned (.tuple #[.slice none 0 0, .int .i64 z])) w' := by
  have h : encB m = [] := by unfold encB; rw [if_neg (by rw [hz]; exact h0)]
  unfold EncTo
  rw [h, hz]
  exact ⟨none, 0, rfl, World.ownsRow_nil _ _ _ _, hb⟩
theorem enc_arg {m : Mg} (h : argOK m = false) : encE m = 2 := by unfold encE; rw [h]; rfl
theorem enc_long {m : Mg} (h : argOK m = true) (hl : longM m = true) : encE m = 11 := by unfold encE; rw [if_pos h, if_pos (.inl hl)]
theorem enc_big {m : Mg} (h : argOK m = true) (hl : 1048576 < (bytesM m).length) : encE m = 11 := by unfold encE; rw [if_pos h, if_pos (.inr hl)]
theorem enc_fine {m : Mg} (h : argOK m = true) (hl : ¬ longM m = true) (hb : ¬ 1048576 < (bytesM m).length) : encE m = 0 := by unfold encE; rw [if_pos h, if_neg (fun q => q.elim hl hb)]
theorem longM_or (m : Mg) : longM m = (decide (65536 < m.v.length) || m.l.any longE) := rfl
/-- Blocks that stay, above a world. -/
structure KB (w0 : World) (ks : List Kp) (W : World) : Prop where
  bel : Below w0.heap.size w0 W
  ks : ∀ x ∈ ks, W.heap[x.1]? = some (.cells x.2.1 x.2.2 (0, 0))
theorem KB.keep {w0 W W' : World} {ks : List Kp} (h : KB w0 ks W) (hb : Below W.heap.size W W') : KB w0 ks W' :=
  ⟨h.bel.trans (hb.mono h.bel.size), fun x hx => (hb.block _ (blkX (h.ks x hx))).trans (h.ks x hx)⟩
theorem KB.new {w0 W : World} {ks : List Kp} (h : KB w0 ks W) (cs : Array Value) (t : TypeId) : KB w0 ((W.heap.size, cs, t) :: ks) (W.alloc (.cells cs t)) := by
  have h2 := h.keep ((Below.refl _ W).alloc (Nat.le_refl _) (.cells cs t))
  refine ⟨h2.bel, fun x hx => ?_⟩
  rcases List.mem_cons.1 hx with rfl | hx
  · exact hpNew W _
  · exact h2.ks x hx
theorem KB.drop {w0 W : World} {ks : List Kp} {x : Kp} (h : KB w0 (x :: ks) W) : KB w0 ks W := ⟨h.bel, fun y hy => h.ks y (List.mem_cons_of_mem _ hy)⟩
theorem okj_any (j : Nat) (hj : j < 5) (m : Mg) (A : Option Addr) (c : Nat) (w : World) (hE : ES w A m.l.length m.l) (hn : m.l.length ≤ 70368744177664) : Calls Tryz.prog (fnOk j) #[.agg #[.string (sOf (wordM m.k)), .int .i64 (usesM m.k), .int .i64 (kSl m.k), .int .i64 (kLo m.k), .int .i64 (kHi m.k)], .agg #[.int .i64 m.k, .int .i64 m.fr, .int .i64 m.tt, .int .i64 m.ro, .int .i64 m.no, .int .i64 m.sl, .int .i64 m.nu, .string (sOf m.v), .slice A m.l.length c]] w fun e w' => e = .returned (.bool (fOk j m)) ∧ Below w.heap.size w w' := by
  have : j = 0 ∨ j = 1 ∨ j = 2 ∨ j = 3 ∨ j = 4 := by omega
  rcases this with rfl | rfl | rfl | rfl | rfl
  · exact ok0_any m A c w
  · exact ok1_any m A c w
  · exact ok2_any m A c w
  · exact ok3_any m A c w
  · exact ordered_any m A c w hE hn
theorem zeroj_any (j : Nat) (hj : j < 5) (m : Mg) (A : Option Addr) (c : Nat) (w : World) : Calls Tryz.prog (fnZero j) #[.agg #[.int .i64 m.k, .int .i64 m.fr, .int .i64 m.tt, .int .i64 m.ro, .int .i64 m.no, .int .i64 m.sl, .int .i64 m.nu, .string (sOf m.v), .slice A m.l.length c]] w fun e w' => e = .returned (.bool (fZero j m)) ∧ Below w.heap.size w w' := by
  have : j = 0 ∨ j = 1 ∨ j = 2 ∨ j = 3 ∨ j = 4 := by omega
  rcases this with rfl | rfl | rfl | rfl | rfl
  · exact zero0_any m A c w
  · exact zero1_any m A c w
  · exact zero2_any m A c w
  · exact zero3_any m A c w
  · exact zero4_any m A c w
set_option maxHeartbeats 16000000 in
theorem enc_any (m : Mg) (A : Option Addr) (c : Nat) (w : World) (hL : Ldr w) (hE : ES w A m.l.length m.l) (hn : m.l.length ≤ 70368744177664) : Calls Tryz.prog 17 #[.agg #[.int .i64 m.k, .int .i64 m.fr, .int .i64 m.tt, .int .i64 m.ro, .int .i64 m.no, .int .i64 m.sl, .int .i64 m.nu, .string (sOf m.v), .slice A m.l.length c]] w fun e w' => EncTo w m e w' := by
  have kb0 := Lib.hid ((Below.refl _ w).alloc (Nat.le_refl _) (.cells #[.int .i64 m.k, .int .i64 m.fr, .int .i64 m.tt, .int .i64 m.ro, .int .i64 m.no, .int .i64 m.sl, .int .i64 m.nu, .string (sOf m.v), .slice A m.l.length c] 28))
  by_cases hk : ¬ (1 ≤ m.k ∧ m.k ≤ 11)
  · have hfin := Lib.hid (enc_arg (m := m) (by unfold argOK; rw [show headOK m = false from decide_eq_false (by omega)]; rfl))
    have hfind := fun W hW => find_any m.k W hW
    rw [show inK m.k = false from decide_eq_false hk] at hfind
    go_enter Tryz.func17, Tryz.ntmps17
    go_wp2_with (fail)
    refine (hfind _ (hL.keep kb0.out)).mono ?_
    rintro e w1 ⟨rfl, b1⟩
    have hM := (b1.block w.heap.size (by simp)).trans (hpNew w _)
    have z1 : w1.cell? ⟨w.heap.size, 1, none⟩ = some (.int .i64 m.fr) := blkC hM 1
    have z2 : w1.cell? ⟨w.heap.size, 2, none⟩ = some (.int .i64 m.tt) := blkC hM 2
    have lM := blkX hM
    have kb := Lib.hid ((kb0.out.trans (b1.mono kb0.out.size)).alloc (Nat.le_trans kb0.out.size b1.size) (.cells #[.string (sOf (wordM m.k)), .int .i64 (usesM m.k), .int .i64 (kSl m.k), .int .i64 (kLo m.k), .int .i64 (kHi m.k)] 55))
    clear hM b1
    go_wp2_with (fail)
    go_ret2
    exact EncTo.err hfin.out (by decide) kb.out
  have hk := Decidable.not_not.1 hk
  have hfind := fun W hW => find_any m.k W hW
  rw [show inK m.k = true from decide_eq_true hk] at hfind
  by_cases h1 : m.fr < 0
  · have hfin := Lib.hid (enc_arg (m := m) (by unfold argOK; rw [show headOK m = false from decide_eq_false (by omega)]; rfl))
    clear hE
    go_enter Tryz.func17, Tryz.ntmps17
    go_wp2_with (fail)
    refine (hfind _ (hL.keep kb0.out)).mono ?_
    rintro e w1 ⟨rfl, b1⟩
    have hM := (b1.block w.heap.size (by simp)).trans (hpNew w _)
    have z1 : w1.cell? ⟨w.heap.size, 1, none⟩ = some (.int .i64 m.fr) := blkC hM 1
    have z2 : w1.cell? ⟨w.heap.size, 2, none⟩ = some (.int .i64 m.tt) := blkC hM 2
    have lM := blkX hM
    have kb := Lib.hid ((kb0.out.trans (b1.mono kb0.out.size)).alloc (Nat.le_trans kb0.out.size b1.size) (.cells #[.string (sOf (wordM m.k)), .int .i64 (usesM m.k), .int .i64 (kSl m.k), .int .i64 (kLo m.k), .int .i64 (kHi m.k)] 55))
    clear hM b1
    go_wp2_with (fail)
    go_ret2
    exact EncTo.err hfin.out (by decide) kb.out
  by_cases h1 : ¬ m.fr < 0 ∧ 55 < m.fr
  · have hfin := Lib.hid (enc_arg (m := m) (by unfold argOK; rw [show headOK m = false from decide_eq_false (by omega)]; rfl))
    clear hE
    obtain ⟨h1, h2⟩ := h1
    go_enter Tryz.func17, Tryz.ntmps17
    go_wp2_with (fail)
    refine (hfind _ (hL.keep kb0.out)).mono ?_
    rintro e w1 ⟨rfl, b1⟩
    have hM := (b1.block w.heap.size (by simp)).trans (hpNew w _)
    have z1 : w1.cell? ⟨w.heap.size, 1, none⟩ = some (.int .i64 m.fr) := blkC hM 1
    have z2 : w1.cell? ⟨w.heap.size, 2, none⟩ = some (.int .i64 m.tt) := blkC hM 2
    have lM := blkX hM
    have kb := Lib.hid ((kb0.out.trans (b1.mono kb0.out.size)).alloc (Nat.le_trans kb0.out.size b1.size) (.cells #[.string (sOf (wordM m.k)), .int .i64 (usesM m.k), .int .i64 (kSl m.k), .int .i64 (kLo m.k), .int .i64 (kHi m.k)] 55))
    clear hM b1
    go_wp2_with (fail)
    go_ret2
    exact EncTo.err hfin.out (by decide) kb.out
  by_cases h1 : ¬ m.fr < 0 ∧ ¬ 55 < m.fr ∧ m.tt < 0
  · have hfin := Lib.hid (enc_arg (m := m) (by unfold argOK; rw [show headOK m = false from decide_eq_false (by omega)]; rfl))
    clear hE
    obtain ⟨h1, h2, h3⟩ := h1
    go_enter Tryz.func17, Tryz.ntmps17
    go_wp2_with (fail)
    refine (hfind _ (hL.keep kb0.out)).mono ?_
    rintro e w1 ⟨rfl, b1⟩
    have hM := (b1.block w.heap.size (by simp)).trans (hpNew w _)
    have z1 : w1.cell? ⟨w.heap.size, 1, none⟩ = some (.int .i64 m.fr) := blkC hM 1
    have z2 : w1.cell? ⟨w.heap.size, 2, none⟩ = some (.int .i64 m.tt) := blkC hM 2
    have lM := blkX hM
    have kb := Lib.hid ((kb0.out.trans (b1.mono kb0.out.size)).alloc (Nat.le_trans kb0.out.size b1.size) (.cells #[.string (sOf (wordM m.k)), .int .i64 (usesM m.k), .int .i64 (kSl m.k), .int .i64 (kLo m.k), .int .i64 (kHi m.k)] 55))
    clear hM b1
    go_wp2_with (fail)
    go_ret2
    exact EncTo.err hfin.out (by decide) kb.out
  by_cases h1 : ¬ m.fr < 0 ∧ ¬ 55 < m.fr ∧ ¬ m.tt < 0 ∧ 55 < m.tt
  · have hfin := Lib.hid (enc_arg (m := m) (by unfold argOK; rw [show headOK m = false from decide_eq_false (by omega)]; rfl))
    clear hE
    obtain ⟨h1, h2, h3, h4⟩ := h1
    go_enter Tryz.func17, Tryz.ntmps17
    go_wp2_with (fail)
    refine (hfind _ (hL.keep kb0.out)).mono ?_
    rintro e w1 ⟨rfl, b1⟩
    have hM := (b1.block w.heap.size (by simp)).trans (hpNew w _)
    have z1 : w1.cell? ⟨w.heap.size, 1, none⟩ = some (.int .i64 m.fr) := blkC hM 1
    have z2 : w1.cell? ⟨w.heap.size, 2, none⟩ = some (.int .i64 m.tt) := blkC hM 2
    have lM := blkX hM
    have kb := Lib.hid ((kb0.out.trans (b1.mono kb0.out.size)).alloc (Nat.le_trans kb0.out.size b1.size) (.cells #[.string (sOf (wordM m.k)), .int .i64 (usesM m.k), .int .i64 (kSl m.k), .int .i64 (kLo m.k), .int .i64 (kHi m.k)] 55))
    clear hM b1
    go_wp2_with (fail)
    go_ret2
    exact EncTo.err hfin.out (by decide) kb.out
  by_cases h1 : ¬ m.fr < 0 ∧ ¬ 55 < m.fr ∧ ¬ m.tt < 0 ∧ ¬ 55 < m.tt ∧ m.fr = m.tt
  · have hfin := Lib.hid (enc_arg (m := m) (by unfold argOK; rw [show headOK m = false from decide_eq_false (by omega)]; rfl))
    clear hE
    have h5 : (m.fr == m.tt) = true := by simp [h1.2.2.2.2]
    obtain ⟨h1, h2, h3, h4, -⟩ := h1
    go_enter Tryz.func17, Tryz.ntmps17
    go_wp2_with (fail)
    refine (hfind _ (hL.keep kb0.out)).mono ?_
    rintro e w1 ⟨rfl, b1⟩
    have hM := (b1.block w.heap.size (by simp)).trans (hpNew w _)
    have z1 : w1.cell? ⟨w.heap.size, 1, none⟩ = some (.int .i64 m.fr) := blkC hM 1
    have z2 : w1.cell? ⟨w.heap.size, 2, none⟩ = some (.int .i64 m.tt) := blkC hM 2
    have lM := blkX hM
    have kb := Lib.hid ((kb0.out.trans (b1.mono kb0.out.size)).alloc (Nat.le_trans kb0.out.size b1.size) (.cells #[.string (sOf (wordM m.k)), .int .i64 (usesM m.k), .int .i64 (kSl m.k), .int .i64 (kLo m.k), .int .i64 (kHi m.k)] 55))
    clear hM b1
    go_wp2_with (fail)
    go_ret2
    exact EncTo.err hfin.out (by decide) kb.out
  have h1 : ¬ m.fr < 0 := by omega
  have h2 : ¬ 55 < m.fr := by omega
  have h3 : ¬ m.tt < 0 := by omega
  have h4 : ¬ 55 < m.tt := by omega
  have h5 : (m.fr == m.tt) = false := by simp; omega
  have hhd : headOK m = true := decide_eq_true (by omega)
  replace hhd := Lib.hid hhd
  go_enter Tryz.func17, Tryz.ntmps17
  go_wp2_with (fail)
  refine (hfind _ (hL.keep kb0.out)).mono ?_
  rintro e w1 ⟨rfl, b1⟩
  have hM := (b1.block w.heap.size (by simp)).trans (hpNew w _)
  have z1 : w1.cell? ⟨w.heap.size, 1, none⟩ = some (.int .i64 m.fr) := blkC hM 1
  have z2 : w1.cell? ⟨w.heap.size, 2, none⟩ = some (.int .i64 m.tt) := blkC hM 2
  have lM := blkX hM
  have kB : KB w [(w1.heap.size, #[.string (sOf (wordM m.k)), .int .i64 (usesM m.k), .int .i64 (kSl m.k), .int .i64 (kLo m.k), .int .i64 (kHi m.k)], 55), (w.heap.size, #[.int .i64 m.k, .int .i64 m.fr, .int .i64 m.tt, .int .i64 m.ro, .int .i64 m.no, .int .i64 m.sl, .int .i64 m.nu, .string (sOf m.v), .slice A m.l.length c], 28)] (w1.alloc (.cells #[.string (sOf (wordM m.k)), .int .i64 (usesM m.k), .int .i64 (kSl m.k), .int .i64 (kLo m.k), .int .i64 (kHi m.k)] 55)) :=
    KB.new ⟨kb0.out.trans (b1.mono kb0.out.size), fun x hx => by rw [List.mem_singleton] at hx; subst hx; exact hM⟩ _ _
  replace kB := Lib.hid kB; replace hE := Lib.hid hE; replace hL := Lib.hid hL
  clear hM b1 hfind
  go_wp2_with (fail)
  refine (fields_any _).mono ?_
  rintro e w2 ⟨rfl, rfl⟩
  replace kB := Lib.hid (kB.out.new fldArr 65)
  obtain ⟨W1, hW1⟩ : ∃ W1, W1 = w1.alloc (.cells #[.string (sOf (wordM m.k)), .int .i64 (usesM m.k), .int .i64 (kSl m.k), .int .i64 (kLo m.k), .int .i64 (kHi m.k)] 55) := ⟨_, rfl⟩
  rw [← hW1] at kB ⊢
  replace hW1 := Lib.hid hW1
  clear z1 z2 lM h1 h2 h3 h4 h5
  go_wp2_with (fail)
  go_loopw [46] (fun i wr => ∃ j : Nat, j ≤ 5 ∧ i = .int .i64 j ∧ goodTo m j = true ∧ KB w [(W1.heap.size, fldArr, 65), (w1.heap.size, #[.string (sOf (wordM m.k)), .int .i64 (usesM m.k), .int .i64 (kSl m.k), .int .i64 (kLo m.k), .int .i64 (kHi m.k)], 55), (w.heap.size, #[.int .i64 m.k, .int .i64 m.fr, .int .i64 m.tt, .int .i64 m.ro, .int .i64 m.no, .int .i64 m.sl, .int .i64 m.nu, .string (sOf m.v), .slice A m.l.length c], 28)] wr) (fun i _ => 5 - (intOf i).toNat)
  case atStart => exact ⟨0, by omega, rfl, rfl, kB.out⟩
  case round =>
    clear kB
    revert wr
    intro W2 hrel
    obtain ⟨j, hj, rfl, hgt, kB⟩ := hrel
    have hB := kB.ks _ (List.mem_cons_self ..)
    have hK := kB.ks _ (List.mem_cons_of_mem _ (List.mem_cons_self ..))
    have hM := kB.ks _ (List.mem_cons_of_mem _ (List.mem_cons_of_mem _ (List.mem_cons_self ..)))
    dsimp only at hB hM hK
    have lB := blkX hB; have lM := blkX hM; have lK := blkX hK
    have k0 : W2.cell? ⟨w1.heap.size, 0, none⟩ = some (.string (sOf (wordM m.k))) := blkC hK 0
    have k1 : W2.cell? ⟨w1.heap.size, 1, none⟩ = some (.int .i64 (usesM m.k)) := blkC hK 1
    have k2 : W2.cell? ⟨w1.heap.size, 2, none⟩ = some (.int .i64 (kSl m.k)) := blkC hK 2
    have k3 : W2.cell? ⟨w1.heap.size, 3, none⟩ = some (.int .i64 (kLo m.k)) := blkC hK 3
    have k4 : W2.cell? ⟨w1.heap.size, 4, none⟩ = some (.int .i64 (kHi m.k)) := blkC hK 4
    have z0 : W2.cell? ⟨w.heap.size, 0, none⟩ = some (.int .i64 m.k) := blkC hM 0
    have z1 : W2.cell? ⟨w.heap.size, 1, none⟩ = some (.int .i64 m.fr) := blkC hM 1
    have z2 : W2.cell? ⟨w.heap.size, 2, none⟩ = some (.int .i64 m.tt) := blkC hM 2
    have z3 : W2.cell? ⟨w.heap.size, 3, none⟩ = some (.int .i64 m.ro) := blkC hM 3
    have z4 : W2.cell? ⟨w.heap.size, 4, none⟩ = some (.int .i64 m.no) := blkC hM 4
    have z5 : W2.cell? ⟨w.heap.size, 5, none⟩ = some (.int .i64 m.sl) := blkC hM 5
    have z6 : W2.cell? ⟨w.heap.size, 6, none⟩ = some (.int .i64 m.nu) := blkC hM 6
    have z7 : W2.cell? ⟨w.heap.size, 7, none⟩ = some (.string (sOf m.v)) := blkC hM 7
    have z8 : W2.cell? ⟨w.heap.size, 8, none⟩ = some (.slice A m.l.length c) := blkC hM 8
    clear hK hM
    by_cases hlt : j < 5
    · obtain ⟨f0, f1, f2, f3, f4, f5⟩ := fld_at j hlt
      have c0 := (blkC hB (j * 6)).trans f0
      have c1 := (blkC hB (j * 6 + 1)).trans f1
      have c2 := (blkC hB (j * 6 + 2)).trans f2
      have c3 := (blkC hB (j * 6 + 3)).trans f3
      have c4 := (blkC hB (j * 6 + 4)).trans f4
      have c5 := (blkC hB (j * 6 + 5)).trans f5
      clear hB f0 f1 f2 f3 f4 f5
      have hA1 := (Below.refl _ W2).alloc (Nat.le_refl _) (.cells #[.int .i64 (useBit j), .func (.func (fnOk j)) #[] #[], .func (.func (fnZero j)) #[] #[], .func (.func (fnWr j)) #[] #[], .func (.func (fnTx j)) #[] #[], .func (.func (fnRd j)) #[] #[]] 65)
      have kB2 := kB.keep hA1
      have hES : ES (W2.alloc (.cells #[.int .i64 (useBit j), .func (.func (fnOk j)) #[] #[], .func (.func (fnZero j)) #[] #[], .func (.func (fnWr j)) #[] #[], .func (.func (fnTx j)) #[] #[], .func (.func (fnRd j)) #[] #[]] 65)) A m.l.length m.l := SL.keep hE.out kB2.bel
      have hok := okj_any j hlt m A c _ hES hn
      have hze := zeroj_any j hlt m A c (W2.alloc (.cells #[.int .i64 (useBit j), .func (.func (fnOk j)) #[] #[], .func (.func (fnZero j)) #[] #[], .func (.func (fnWr j)) #[] #[], .func (.func (fnTx j)) #[] #[], .func (.func (fnRd j)) #[] #[]] 65))
      have hub := use_bit m.k j hlt
      have hu0 := useBit_pos j
      have hgd : goodTo m (j + 1) = (goodTo m j && fGood j m) := rfl
      have hstop := fun h => enc_arg (good_stop m hlt h)
      have hfg : fGood j m = if fUse j m.k = true then fOk j m else fZero j m := rfl
      generalize usesM m.k = us at *
      rw [hgt, Bool.true_and] at hgd
      replace hES := Lib.hid hES; replace hA1 := Lib.hid hA1; replace kB := Lib.hid kB
      rcases Bool.eq_false_or_eq_true (fUse j m.k) with hu | hu
      · rw [hu, if_pos rfl] at hfg
        rw [hu] at hub
        have hub2 : bits .and .i64 us (useBit j) = useBit j := hub
        clear hub hze
        rcases Bool.eq_false_or_eq_true (fOk j m) with ho | ho
        · have hgn := Lib.hid (hgd.trans (hfg.trans ho))
          rw [ho] at hok
          clear hstop hgd hfg ho hu hgt
          replace kB2 := Lib.hid kB2
          have hcf := callOk j hlt
          have hne0 : (useBit j == 0) = false := by simp [hu0]
          have j0 : (0 : Int) ≤ j := by omega
          have j1 : (j : Int) < 5 := by omega
          generalize useBit j = ub at *
          generalize fnOk j = n1 at *
          generalize fnZero j = n2 at *
          generalize fnWr j = n3 at *
          generalize fnTx j = n4 at *
          generalize fnRd j = n5 at *
          all_goals
            go_wp2_with (fail)
            refine hok.mono ?_
            rintro e w7 ⟨rfl, b7⟩
            have kB3 := kB2.out.keep b7
            have p1 : w7.cell? ⟨w1.heap.size, 1, none⟩ = some (.int .i64 us) := blkC (kB3.ks _ (List.mem_cons_of_mem _ (List.mem_cons_self ..))) 1
            have p2 := (b7.block W2.heap.size (by simp)).trans (hpNew W2 _)
            have p3 := blkC p2 0
            replace kB3 := Lib.hid kB3
            clear b7 p2 z0 z1 z2 z3 z4 z5 z6 z7 z8 k0 k1 k2 k3 k4 c0 c1 c2 c3 c4 c5
            simp only [List.getElem?_toArray, List.getElem?_cons_zero] at p3
            go_wp2_with (fail)
            exact ⟨⟨j + 1, by omega, by go_num, hgn.out, kB3.out⟩, by simp [intOf]; omega⟩
        · have hfin := Lib.hid (hstop (hfg.trans ho))
          rw [ho] at hok
          clear hstop hgd hfg ho hu hgt
          replace kB2 := Lib.hid kB2
          have hcf := callOk j hlt
          have hne0 : (useBit j == 0) = false := by simp [hu0]
          have j0 : (0 : Int) ≤ j := by omega
          have j1 : (j : Int) < 5 := by omega
          generalize useBit j = ub at *
          generalize fnOk j = n1 at *
          generalize fnZero j = n2 at *
          generalize fnWr j = n3 at *
          generalize fnTx j = n4 at *
          generalize fnRd j = n5 at *
          all_goals
            go_wp2_with (fail)
            refine hok.mono ?_
            rintro e w7 ⟨rfl, b7⟩
            have kB3 := kB2.out.keep b7
            have p1 : w7.cell? ⟨w1.heap.size, 1, none⟩ = some (.int .i64 us) := blkC (kB3.ks _ (List.mem_cons_of_mem _ (List.mem_cons_self ..))) 1
            have p2 := (b7.block W2.heap.size (by simp)).trans (hpNew W2 _)
            have p3 := blkC p2 0
            replace kB3 := Lib.hid kB3
            clear b7 p2 z0 z1 z2 z3 z4 z5 z6 z7 z8 k0 k1 k2 k3 k4 c0 c1 c2 c3 c4 c5
            simp only [List.getElem?_toArray, List.getElem?_cons_zero] at p3
            go_wp2_with (fail)
            go_ret2
            exact EncTo.err hfin.out (by decide) kB3.out.bel
      · rw [hu, if_neg (by decide)] at hfg
        rw [hu] at hub
        have hub2 : bits .and .i64 us (useBit j) = 0 := hub
        clear hub hok
        rcases Bool.eq_false_or_eq_true (fZero j m) with ho | ho
        · have hgn := Lib.hid (hgd.trans (hfg.trans ho))
          rw [ho] at hze
          clear hstop hgd hfg ho hu hgt
          replace kB2 := Lib.hid kB2
          have hcf := callZero j hlt
          have hne0 : (useBit j == 0) = false := by simp [hu0]
          have j0 : (0 : Int) ≤ j := by omega
          have j1 : (j : Int) < 5 := by omega
          generalize useBit j = ub at *
          generalize fnOk j = n1 at *
          generalize fnZero j = n2 at *
          generalize fnWr j = n3 at *
          generalize fnTx j = n4 at *
          generalize fnRd j = n5 at *
          all_goals
            go_wp2_with (fail)
            refine hze.mono ?_
            rintro e w7 ⟨rfl, b7⟩
            have kB3 := Lib.hid (kB2.out.keep b7)
            clear b7 z0 z1 z2 z3 z4 z5 z6 z7 z8 k0 k1 k2 k3 k4 c0 c1 c2 c3 c4 c5
            go_wp2_with (fail)
            exact ⟨⟨j + 1, by omega, by go_num, hgn.out, kB3.out⟩, by simp [intOf]; omega⟩
        · have hfin := Lib.hid (hstop (hfg.trans ho))
          rw [ho] at hze
          clear hstop hgd hfg ho hu hgt
          replace kB2 := Lib.hid kB2
          have hcf := callZero j hlt
          have hne0 : (useBit j == 0) = false := by simp [hu0]
          have j0 : (0 : Int) ≤ j := by omega
          have j1 : (j : Int) < 5 := by omega
          generalize useBit j = ub at *
          generalize fnOk j = n1 at *
          generalize fnZero j = n2 at *
          generalize fnWr j = n3 at *
          generalize fnTx j = n4 at *
          generalize fnRd j = n5 at *
          all_goals
            go_wp2_with (fail)
            refine hze.mono ?_
            rintro e w7 ⟨rfl, b7⟩
            have kB3 := Lib.hid (kB2.out.keep b7)
            clear b7 z0 z1 z2 z3 z4 z5 z6 z7 z8 k0 k1 k2 k3 k4 c0 c1 c2 c3 c4 c5
            go_wp2_with (fail)
            go_ret2
            exact EncTo.err hfin.out (by decide) kB3.out.bel
    · obtain rfl : j = 5 := by omega
      have harg : argOK m = true := by rw [argOK_to, hhd.out, hgt]; rfl
      have hsz := sOf_size m.v
      have hES := SL.keep hE.out kB.bel
      have hlo := longM_or m
      clear hgt hB
      by_cases hv : 65536 < m.v.length
      · have hfin := Lib.hid (enc_long harg (by rw [hlo, decide_eq_true hv]; rfl))
        have v1 : (65536 : Int) < ((sOf m.v).size : Int) := by omega
        have v2 : 65536 < (sOf m.v).size := by omega
        replace hsz := Lib.hid hsz; replace hES := Lib.hid hES; replace kB := Lib.hid kB
        clear hlo hv harg
        go_wp2_with (fail)
        go_ret2
        exact EncTo.err hfin.out (by decide) kB.out.bel
      · have v1 : ¬ (65536 : Int) < ((sOf m.v).size : Int) := by omega
        have v2 : ¬ 65536 < (sOf m.v).size := by omega
        have hct := contains_any A m.l.length c m.l W2 hES hn
        rw [decide_eq_false hv, Bool.false_or] at hlo
        replace hsz := Lib.hid hsz
        clear hv hES
        rcases Bool.eq_false_or_eq_true (m.l.any longE) with hg | hg
        · have hfin := Lib.hid (enc_long harg (hlo.trans hg))
          rw [hg] at hct
          replace kB := Lib.hid kB
          clear hlo harg hg
          go_wp2_with (fail)
          refine hct.mono ?_
          rintro e w7 ⟨rfl, b7⟩
          have kB3 := Lib.hid (kB.out.keep b7)
          clear b7 z0 z1 z2 z3 z4 z5 z6 z7 z8 k0 k1 k2 k3 k4
          go_wp2_with (fail)
          go_ret2
          exact EncTo.err hfin.out (by decide) kB3.out.bel
        · have hnl : ¬ longM m = true := by rw [hlo, hg]; decide
          have hfit := fit_of harg hnl
          rw [hg] at hct
          replace kB := Lib.hid kB; replace hfit := Lib.hid hfit; replace harg := Lib.hid harg; replace hnl := Lib.hid hnl
          clear hlo hg
          go_wp2_with (fail)
          refine hct.mono ?_
          rintro e w7 ⟨rfl, b7⟩
          have kB3 := kB.out.keep b7
          have hK := kB3.ks _ (List.mem_cons_of_mem _ (List.mem_cons_self ..))
          have hM := kB3.ks _ (List.mem_cons_of_mem _ (List.mem_cons_of_mem _ (List.mem_cons_self ..)))
          dsimp only at hK hM
          clear z0 z1 z2 z3 z4 z5 z6 z7 z8 k0 k1 k2 k3 k4
          have z0 : w7.cell? ⟨w.heap.size, 0, none⟩ = some (.int .i64 m.k) := blkC hM 0
          have z1 : w7.cell? ⟨w.heap.size, 1, none⟩ = some (.int .i64 m.fr) := blkC hM 1
          have z2 : w7.cell? ⟨w.heap.size, 2, none⟩ = some (.int .i64 m.tt) := blkC hM 2
          have z3 : w7.cell? ⟨w.heap.size, 3, none⟩ = some (.int .i64 m.ro) := blkC hM 3
          have z4 : w7.cell? ⟨w.heap.size, 4, none⟩ = some (.int .i64 m.no) := blkC hM 4
          have z5 : w7.cell? ⟨w.heap.size, 5, none⟩ = some (.int .i64 m.sl) := blkC hM 5
          have z6 : w7.cell? ⟨w.heap.size, 6, none⟩ = some (.int .i64 m.nu) := blkC hM 6
          have z7 : w7.cell? ⟨w.heap.size, 7, none⟩ = some (.string (sOf m.v)) := blkC hM 7
          have z8 : w7.cell? ⟨w.heap.size, 8, none⟩ = some (.slice A m.l.length c) := blkC hM 8
          have k0 : w7.cell? ⟨w1.heap.size, 0, none⟩ = some (.string (sOf (wordM m.k))) := blkC hK 0
          have k1 : w7.cell? ⟨w1.heap.size, 1, none⟩ = some (.int .i64 (usesM m.k)) := blkC hK 1
          have k2 : w7.cell? ⟨w1.heap.size, 2, none⟩ = some (.int .i64 (kSl m.k)) := blkC hK 2
          have k3 : w7.cell? ⟨w1.heap.size, 3, none⟩ = some (.int .i64 (kLo m.k)) := blkC hK 3
          have k4 : w7.cell? ⟨w1.heap.size, 4, none⟩ = some (.int .i64 (kHi m.k)) := blkC hK 4
          have hwr := write_any m A c w7 hfit.out (SL.keep hE.out kB3.bel)
          replace kB3 := Lib.hid kB3
          clear b7 hK hM
          go_wp2_with (fail)
          refine hwr.mono ?_
          rintro e w8 ⟨A8, c8, rfl, o8, b8⟩
          have hb8 := kB3.out.bel
          have hfin : IsBytes w A8 c8 (bytesM m) w8 := ⟨o8.mono hb8.size, hb8.trans (b8.mono hb8.size)⟩
          replace hfin := Lib.hid hfin
          clear o8 b8 hb8
          obtain ⟨L, hLn⟩ : ∃ L, L = (bytesM m).length := ⟨_, rfl⟩
          rw [← hLn]
          by_cases hbg : 1048576 < L
          · have he := Lib.hid (enc_big harg.out (by omega))
            have hb1 : (1048576 : Int) < (L : Int) := by omega
            replace hLn := Lib.hid hLn
            clear hbg
            go_wp2_with (fail)
            go_ret2
            exact EncTo.err he.out (by decide) hfin.out.2
          · have he := Lib.hid (enc_fine harg.out hnl.out (by omega))
            have hb1 : ¬ (1048576 : Int) < (L : Int) := by omega
            replace hLn := Lib.hid hLn
            clear hbg
            go_wp2_with (fail)
            go_ret2
            refine ⟨A8, c8, ?_, ?_⟩
            · rw [he.out]; unfold encB; rw [if_pos he.out, ← hLn.out]; rfl
            · unfold encB; rw [if_pos he.out]; exact hfin.out
set_option maxHeartbeats 2000000 in
theorem check_m (m : Mg) (A : Option Addr) (c : Nat) (w : World) (hL : Ldr w) (hE : ES w A m.l.length m.l) (hn : m.l.length ≤ 70368744177664) : Calls Tryz.prog 18 #[.agg #[.int .i64 m.k, .int .i64 m.fr, .int .i64 m.tt, .int .i64 m.ro, .int .i64 m.no, .int .i64 m.sl, .int .i64 m.nu, .string (sOf m.v), .slice A m.l.length c]] w fun e w' => e = .returned (.int .i64 (encE m)) ∧ Below w.heap.size w w' := by
  have kb := (Below.refl _ w).alloc (Nat.le_refl _) (.cells #[.int .i64 m.k, .int .i64 m.fr, .int .i64 m.tt, .int .i64 m.ro, .int .i64 m.no, .int .i64 m.sl, .int .i64 m.nu, .string (sOf m.v), .slice A m.l.length c] 28)
  have h := enc_any m A c _ (hL.keep kb) (SL.keep hE kb) hn
  replace kb := Lib.hid kb; replace hL := Lib.hid hL; replace hE := Lib.hid hE
  go_enter Tryz.func18, Tryz.ntmps18
  go_wp2_with (fail)
  refine h.mono ?_
  rintro e w2 ⟨A2, c2, rfl, o2, b2⟩
  have hb := Lib.hid (kb.out.trans (b2.mono kb.out.size))
  clear o2 b2
  generalize (encB m).length = L at *
  go_wp2_with (fail)
  go_ret
  exact ⟨rfl, hb.out⟩
end Go.Proofs.YtlinjanflenljaaGreatDoor
