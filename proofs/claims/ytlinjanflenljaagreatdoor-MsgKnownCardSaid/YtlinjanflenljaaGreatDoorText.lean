/- The program's Text. -/
import Derived.Test.YtlinjanflenljaaGreatDoorBLib
import Derived.Test.YtlinjanflenljaaGreatDoorChk
import Derived.Deep.RegionHeld3
namespace Go.Proofs.YtlinjanflenljaaGreatDoor
open Go.RowKit
set_option linter.unusedSimpArgs false
set_option linter.unusedVariables false
set_option linter.unusedSectionVars false
set_option maxRecDepth 10000
/-- A world in which a ballot's box lies at the end of w, and what was there stands. -/
structure TextS (w : World) (r n : Int) (W : World) : Prop where
  bel : Below w.heap.size w W
  blk : W.heap[w.heap.size]? = some (.cells #[.int .i64 r, .int .i64 n] 25 (0, 0))
  ldr : Ldr W
section
variable {w W : World} {r n : Int}
theorem TextS.keep {W' : World} (h : TextS w r n W) (hb : Below W.heap.size W W') : TextS w r n W' :=
  ⟨h.bel.trans (hb.mono h.bel.size), (hb.block _ (blkX h.blk)).trans h.blk, h.ldr.keep hb⟩
theorem TextS.drew (h : TextS w r n W) : TextS w r n W.drew := h.keep (Below.refl _ W).drew
theorem TextS.new (hL : Ldr w) : TextS w r n (w.alloc (.cells #[.int .i64 r, .int .i64 n] 25)) :=
  have hb := (Below.refl _ w).alloc (Nat.le_refl _) (.cells #[.int .i64 r, .int .i64 n] 25)
  ⟨hb, hpNew w _, hL.keep hb⟩
theorem TextS.itoa (h : TextS w r n W) (x : Int) (h0 : 0 ≤ x) (h1 : x ≤ 9223372036854775807) (S : ByteArray) (hS : Hid (S = ⟨(Lib.decDigits x.toNat).toArray⟩)) : Calls Tryz.prog 45 #[.int .i64 x] W fun e w' => e = .returned (.string S) ∧ TextS w r n w' := by
  have hS : S = _ := hS
  subst hS
  exact (itoa_any x h0 h1 W h.ldr).mono fun _ _ ⟨he, hb⟩ => ⟨he, h.keep hb⟩
end
theorem txt_str (r n : Int) : (⟨(Lib.decDigits r.toNat).toArray⟩ : ByteArray) ++ ⟨#[46]⟩ ++ ⟨(Lib.decDigits n.toNat).toArray⟩ = ⟨(txt r n).toArray⟩ := by
  apply ByteArray.ext
  simp [txt]
theorem txtS_ok {r n : Int} (h : vld r n 7 = true) : txtS r n = ⟨(txt r n).toArray⟩ := by unfold txtS; rw [if_pos h]
theorem txtS_bad {r n : Int} (h : vld r n 7 = false) : txtS r n = ByteArray.empty := by unfold txtS; rw [h]; rfl
attribute [-go_sem] run_string_add_if
set_option maxHeartbeats 2000000 in
theorem text_any (r n : Int) (w : World) (hL : Ldr w) : Calls Tryz.prog 110 #[.agg #[.int .i64 r, .int .i64 n]] w fun e w' => e = .returned (.tuple #[.string (txtS r n), .int .i64 (chkE r n 7)]) ∧ Below w.heap.size w w' := by
  rcases Bool.eq_false_or_eq_true (vld r n 7) with hv | hv
  · have hv' := (vld_iff r n 7).1 hv
    rw [txtS_ok hv, chkE_ok hv, ← txt_str]
    have hck := Lib.hid (chkE_ok hv)
    have hr0 : 0 ≤ r := by omega
    have hn0 : 0 ≤ n := by omega
    have hr1 : r ≤ 9223372036854775807 := by omega
    have hn1 : n ≤ 9223372036854775807 := by omega
    have hs := TextS.new (r := r) (n := n) hL
    obtain ⟨S, hS⟩ : ∃ S : ByteArray, S = ⟨(Lib.decDigits r.toNat).toArray⟩ := ⟨_, rfl⟩
    obtain ⟨R, hR⟩ : ∃ S : ByteArray, S = ⟨(Lib.decDigits n.toNat).toArray⟩ := ⟨_, rfl⟩
    have hs10 : S.size ≤ 10 := by rw [hS]; exact dec_len (by omega)
    have hr10 : R.size ≤ 10 := by rw [hR]; exact dec_len (by omega)
    rw [← hS, ← hR]
    replace hS := Lib.hid hS
    have hRR := Lib.hid hR
    have ha1 : ∀ W : World, (Op.stringOp .add S ⟨#[46]⟩).run Tryz.prog W = .ok (.string (S ++ ⟨#[46]⟩)) W := fun W => run_string_add_sum W _ _ (by show S.size + 1 ≤ _; omega)
    have ha2 : ∀ W : World, (Op.stringOp .add (S ++ ⟨#[46]⟩) R).run Tryz.prog W = .ok (.string (S ++ ⟨#[46]⟩ ++ R)) W := fun W => run_string_add_sum W _ _ (by rw [ByteArray.size_append]; show S.size + 1 + _ ≤ _; omega)
    clear hv hv' hR
    go_enter Tryz.func110, Tryz.ntmps110
    go_wp2_with (fail)
    refine (check_any r n 7 _).mono ?_
    rintro e w1 ⟨he, b1⟩
    rw [hck.out] at he
    subst he
    have hR := Lib.hid (hs.keep b1)
    clear hs
    have q0 := blkC hR.out.blk 0; have q1 := blkC hR.out.blk 1
    go_wp2_with (fail)
    go_region_held3 (fun w' => w'.cell? ⟨w.heap.size, 0, none⟩ = some (.int .i64 r) ∧ w'.cell? ⟨w.heap.size, 1, none⟩ = some (.int .i64 n)) (first | exact ⟨q0, q1⟩ | exact q0 | exact q1 | (simp [*]; done)) (first
      | (go_at_call 45; refine (TextS.itoa (by first | exact hR.out | exact hR.out.drew) _ hr0 hr1 S hS).mono ?_; rintro e w8 ⟨rfl, hR'⟩; have q0 := blkC hR'.blk 0; have q1 := blkC hR'.blk 1; replace hR := Lib.hid hR'; clear hR')
      | (go_at_call 45; refine (TextS.itoa (by first | exact hR.out | exact hR.out.drew) _ hn0 hn1 R hRR).mono ?_; rintro e w8 ⟨rfl, hR'⟩; have q0 := blkC hR'.blk 0; have q1 := blkC hR'.blk 1; replace hR := Lib.hid hR'; clear hR'))
    all_goals
      have hfin := hR.out.bel
      go_wp2_with (fail)
      go_ret2
      exact ⟨by simp, by first | exact hfin | exact hfin.drew⟩
  · rw [txtS_bad hv, chkE_bad hv]
    have hck := Lib.hid (chkE_bad hv)
    have hs := TextS.new (r := r) (n := n) hL
    clear hv
    go_enter Tryz.func110, Tryz.ntmps110
    go_wp2_with (fail)
    refine (check_any r n 7 _).mono ?_
    rintro e w1 ⟨he, b1⟩
    rw [hck.out] at he
    subst he
    have hR := Lib.hid (hs.keep b1).bel
    clear hs
    go_wp2_with (fail)
    go_ret2
    exact ⟨rfl, hR.out⟩
end Go.Proofs.YtlinjanflenljaaGreatDoor
