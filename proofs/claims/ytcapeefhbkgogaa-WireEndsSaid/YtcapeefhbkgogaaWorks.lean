/- The examples of the chapter hold. -/
import Derived.Test.YtcapeefhbkgogaaWrite
import Derived.Test.YtcapeefhbkgogaaRd
import Derived.Test.YtcapeefhbkgogaaRefX
namespace Go.Proofs.Ytcapeefhbkgogaa
open Go.RowKit
set_option linter.unusedSimpArgs false
set_option linter.unusedVariables false
set_option linter.unusedSectionVars false
set_option maxRecDepth 10000

/-- A writer that a call has made since block B. -/
structure WrO (T : TypeId) (B : Nat) (W : World) (g : Nat) (A : Option Addr) (c : Nat) (xs : List UInt8) : Prop where
  is : IsWr T W g A c xs
  low : B ≤ g
  row : ∀ k, rowOf A = some k → B ≤ k
/-- A step of that writer. -/
theorem WrO.step {T : TypeId} {B : Nat} {w W W' : World} {g c : Nat} {A : Option Addr} {xs ys : List UInt8} (h : WrO T B W g A c xs) (hb : Below B w W) (hB : B ≤ W.heap.size) (ht : WrTo T W g A ys W') :
    ∃ A' c', WrO T B W' g A' c' ys ∧ Below B w W' := by
  obtain ⟨A', c', i, m, ch⟩ := ht
  refine ⟨A', c', ⟨i, h.low, ?_⟩, Chg.belowAfter hb ch hB ?_⟩
  · intro k hk
    rcases m with e | ⟨k', e, hk'⟩
    · exact h.row k (e.symm.trans hk)
    · rw [hk] at e; injection e with e; omega
  · rintro k hk (e | e)
    · have := h.low; omega
    · have := h.row k e; omega
theorem WrO.new {T : TypeId} (W : World) {B : Nat} (hB : B ≤ W.heap.size) : WrO T B (W.alloc (.cells #[.bool true, .slice none 0 0] T)) W.heap.size none 0 [] :=
  ⟨isWr_new T W, hB, fun k hk => by cases hk⟩
structure RdO (B : Nat) (W : World) (g : Nat) (A : Option Addr) (c : Nat) (s : RS) : Prop where
  is : IsRd W g A c s
  low : B ≤ g
theorem RdO.step {B : Nat} {w W W' : World} {g c : Nat} {A : Option Addr} {s s' : RS} (h : RdO B W g A c s) (hb : Below B w W) (hB : B ≤ W.heap.size) (ht : RdTo W g s' W') :
    ∃ A' c', RdO B W' g A' c' s' ∧ Below B w W' := by
  obtain ⟨A', c', i, ch⟩ := ht
  exact ⟨A', c', ⟨i, h.low⟩, Chg.belowAfter hb ch hB (by rintro k hk rfl; have := h.low; omega)⟩
theorem IsRd.other {W W' : World} {g c g2 : Nat} {A : Option Addr} {s : RS} (h : IsRd W g A c s) {cs : Array Value} {t : TypeId} {fr : Nat × Nat} (hg : W.heap[g2]? = some (.cells cs t fr)) (hcs : ∀ (i : Nat) (c : UInt8), cs[i]? ≠ some (bv c))
    (hc : Chg (fun k => k = g2) W W') (hne : g ≠ g2) (ht : t ≠ 5 := by decide) : IsRd W' g A c s :=
  ⟨(hc.block g h.lt hne).trans h.blk, h.rb.setOther hg hcs hc, h.cap, h.len, h.typ.keep hc fun q e cs' fr' hb => by subst e; rw [hg] at hb; injection hb with hb; injection hb with _ hb; exact ht hb, h.old⟩

theorem rb_lit {w : World} (l : List UInt8) (cs : Array Value) (hcs : cs = (bvs l).toArray) : RB (w.alloc (.cells cs 5)) (some ⟨w.heap.size, 0, none⟩) l.length l := by
  subst hcs
  refine ⟨rfl, fun _ => ⟨_, rfl, by simp, fun j u hu => ?_⟩⟩
  rw [Addr.add_lit, cell_of_row _ _ _ _ _ _ (heap_alloc_new w _)]
  simpa using hu
def wk : List UInt8 := [172, 2, 127, 2, 97, 98, 1]
theorem wk_enc : ([] ++ enc 300 ++ enc (zig (-64)) ++ (enc 2 ++ [97, 98]) ++ enc 1) = wk := by decide +kernel
theorem wk_u : rdU (some wk) = (300, some [127, 2, 97, 98, 1]) := by decide +kernel
theorem wk_i : rdI (some [127, 2, 97, 98, 1]) = (-64, some [2, 97, 98, 1]) := by decide +kernel
theorem wk_t : rdT (some [2, 97, 98, 1]) = ([97, 98], some [1]) := by decide +kernel
theorem wk_b : rdB (some [1]) = (true, some []) := by decide +kernel
theorem wk_x : rdU (some [128, 0]) = (0, none) := by decide +kernel
set_option maxHeartbeats 4000000 in
theorem works_any (w : World) : Calls Try.prog 13 #[] w fun e w' => e = .returned (.bool true) ∧ Below w.heap.size w w' := by
  go_enter Try.func13, Try.ntmps13
  go_wp2_with (fail)
  refine (wNew_any _).mono ?_
  rintro e w1 ⟨rfl, rfl⟩
  have o0 := WrO.new (T := 46) w (Nat.le_refl _)
  have b0 : Below w.heap.size w (w.alloc (.cells #[.bool true, .slice none 0 0] 46)) := (Below.refl _ w).alloc (Nat.le_refl _) _
  go_wp2_with (fail)
  refine (wUint_any _ _ _ _ 300 _ o0.is (by omega) (by simp)).mono ?_
  rintro e w1 ⟨rfl, t1⟩
  obtain ⟨A1, c1, o1, b1⟩ := o0.step b0 b0.size t1
  clear o0 b0 t1
  go_wp2_with (fail)
  refine (wInt_any _ _ _ _ _ o1.is (by decide +kernel) (-64) (by omega) (by omega)).mono ?_
  rintro e w2 ⟨rfl, t2⟩
  obtain ⟨A2, c2, o2, b2⟩ := o1.step b1 b1.size t2
  clear o1 b1 t2
  go_wp2_with (fail)
  refine (wText_any _ _ _ _ _ o2.is (by decide +kernel) ⟨#[97, 98]⟩ (by decide)).mono ?_
  rintro e w3 ⟨rfl, t3⟩
  obtain ⟨A3, c3, o3, b3⟩ := o2.step b2 b2.size t3
  clear o2 b2 t3
  go_wp2_with (fail)
  refine (wBool_any _ _ _ _ _ o3.is (by decide +kernel) true).mono ?_
  rintro e w4 ⟨rfl, t4⟩
  obtain ⟨A4, c4, o4, b4⟩ := o3.step b3 b3.size t4
  clear o3 b3 t4
  have hx : [] ++ enc 300 ++ enc (zig (-64)) ++ enc (ByteArray.mk #[97, 98]).size ++ (ByteArray.mk #[97, 98]).data.toList ++ enc (if true = true then 1 else 0) = wk := by decide +kernel
  rw [hx] at o4
  clear hx
  go_wp2_with (fail)
  refine (wBytes_any _ _ _ _ _ o4.is (by decide +kernel)).mono ?_
  rintro e w5 ⟨A5, c5, rfl, r5, k5⟩
  have b5 : Below w.heap.size w w5 := b4.trans (k5.mono b4.size)
  have i5 := o4.is.below k5
  clear o4 k5
  have heq := Lib.hid (show (wk == wk) = true from beq_self_eq_true _)
  have b6 : Below w.heap.size w (w5.alloc (.cells (bvs wk).toArray 5)) := b5.alloc b5.size _
  have i6 := i5.below ((Below.refl _ w5).alloc (Nat.le_refl _) (.cells (bvs wk).toArray 5))
  have ra := (RB.of_own r5).below ((Below.refl _ w5).alloc (Nat.le_refl _) (.cells (bvs wk).toArray 5))
  have rb := rb_lit (w := w5) wk _ rfl
  go_wp2_with (fail)
  refine (equal_any ra rb _ _).mono ?_
  rintro e w6 ⟨he, rfl⟩
  rw [heq.out] at he
  subst he
  go_wp2_with (fail)
  refine (wLen_any _ _ _ _ _ i6 (by decide +kernel)).mono ?_
  rintro e w6 ⟨rfl, rfl⟩
  have hl7 : ((wk.length : Int) == 7) = true := by decide
  clear ra rb r5 b5 i5 heq
  generalize (w5.alloc (.cells (bvs wk).toArray 5)) = W6 at *
  go_wp2_with (fail)
  refine (wBytes_any _ _ _ _ _ i6 (by decide +kernel)).mono ?_
  rintro e w7 ⟨A7, c7, rfl, r7, k7⟩
  have b7 : Below w.heap.size w w7 := b6.trans (k7.mono b6.size)
  clear b6 i6 k7
  go_wp2_with (fail)
  refine (read_any (RB.of_own r7) (by decide)).mono ?_
  rintro e w8 ⟨g8, A8, c8, rfl, l8, i8, _, k8⟩
  have o8 : RdO w.heap.size w8 g8 A8 c8 (some wk) := ⟨i8, Nat.le_trans b7.size l8⟩
  have b8 : Below w.heap.size w w8 := b7.trans (k8.mono b7.size)
  clear i8 k8 l8 b7 r7
  have b9 : Below w.heap.size w (w8.alloc (.cells (bvs [128, 0]).toArray 5)) := b8.alloc b8.size _
  have o9 : RdO w.heap.size (w8.alloc (.cells (bvs [128, 0]).toArray 5)) g8 A8 c8 (some wk) := ⟨o8.is.below ((Below.refl _ w8).alloc (Nat.le_refl _) _), o8.low⟩
  have rb := rb_lit (w := w8) [128, 0] _ rfl
  go_wp2_with (fail)
  refine (read_any rb (by decide)).mono ?_
  rintro e w10 ⟨g10, A10, c10, rfl, l10, i10, _, k10⟩
  have b10 : Below w.heap.size w w10 := b9.trans (k10.mono b9.size)
  have o10 : RdO w.heap.size w10 g8 A8 c8 (some wk) := ⟨o9.is.below k10, o9.low⟩
  have hne : g10 ≠ g8 := by have := o9.is.lt; omega
  have hlo : w.heap.size ≤ g10 := Nat.le_trans b9.size l10
  clear b8 o8 b9 o9 rb k10 l10
  go_wp2_with (fail)
  refine (rdUint_any _ o10.is).mono ?_
  rintro e w11 ⟨he, t11⟩
  rw [wk_u] at he t11
  subst he
  have i11 := i10.other o10.is.blk (rd_noByte _ _ _ _) t11.choose_spec.choose_spec.2 hne
  obtain ⟨A11, c11, o11, b11⟩ := o10.step b10 b10.size t11
  clear i10 o10 b10 t11
  go_wp2_with (fail)
  refine (left_p o11.is).mono ?_
  rintro e w12 ⟨rfl, rfl⟩
  have q5 : (((left (some [127, 2, 97, 98, 1])).length : Int) == 5) = true := by decide
  go_wp2_with (fail)
  refine (rdInt_any _ o11.is).mono ?_
  rintro e w12 ⟨he, t12⟩
  rw [wk_i] at he t12
  subst he
  have i12 := i11.other o11.is.blk (rd_noByte _ _ _ _) t12.choose_spec.choose_spec.2 hne
  obtain ⟨A12, c12, o12, b12⟩ := o11.step b11 b11.size t12
  clear i11 o11 b11 t12 q5
  go_wp2_with (fail)
  refine (rdText_any _ o12.is).mono ?_
  rintro e w13 ⟨he, t13⟩
  rw [wk_t] at he t13
  subst he
  have i13 := i12.other o12.is.blk (rd_noByte _ _ _ _) t13.choose_spec.choose_spec.2 hne
  obtain ⟨A13, c13, o13, b13⟩ := o12.step b12 b12.size t13
  clear i12 o12 b12 t13
  have hst : (strOf [97, 98]).toList = [97, 98] := by decide +kernel
  go_wp2_with (fail)
  refine (rdBool_any _ o13.is).mono ?_
  rintro e w14 ⟨he, t14⟩
  rw [wk_b] at he t14
  subst he
  have i14 := i13.other o13.is.blk (rd_noByte _ _ _ _) t14.choose_spec.choose_spec.2 hne
  obtain ⟨A14, c14, o14, b14⟩ := o13.step b13 b13.size t14
  clear i13 o13 b13 t14
  go_wp2_with (fail)
  refine (end_p o14.is).mono ?_
  rintro e w15 ⟨rfl, rfl⟩
  have q6 : (endE' (some []) == 0) = true := by decide
  go_wp2_with (fail)
  refine (rdUint_any _ i14).mono ?_
  rintro e w15 ⟨he, t15⟩
  rw [wk_x] at he t15
  subst he
  obtain ⟨A15, c15, o15, b15⟩ := RdO.step ⟨i14, hlo⟩ b14 b14.size t15
  clear i14 o14 b14 t15
  go_wp2_with (fail)
  refine (end_p o15.is).mono ?_
  rintro e w16 ⟨rfl, rfl⟩
  have q7 : (endE' none == 10) = true := by decide
  go_wp2_with (fail)
  go_ret
  exact ⟨by simp, b15⟩
end Go.Proofs.Ytcapeefhbkgogaa
