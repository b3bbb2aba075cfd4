/- CountBounds of package skaldlaw07 returns true for every input and leaves its arguments as they were: no condition. -/
import Derived.Test.YtmkggjhlacajaaaBndW
import Derived.Test.YtmkggjhlacajaaaAgg
import Derived.Test.YtmkggjhlacajaaaOpens
import Derived.Lib.SmallJoins
import Derived.ChangeOld
namespace Go.Proofs.Ytmkggjhlacajaaa.lawCountBounds
open Go.Proofs.Ytmkggjhlacajaaa
open Go.ChangeShapes Go.WideShapes Go.ChangeAt Go.RowKit Go.Joins
set_option linter.unusedSimpArgs false
set_option linter.unusedVariables false
theorem bi32 {n : Int} (h : (Lit.int .i32 n).wf = true) : -2147483648 ≤ n ∧ n ≤ 2147483647 := by
  simp [Lit.wf, IntKind.min, IntKind.max, IntKind.signed, IntKind.bits] at h; omega
theorem bu16 {n : Int} (h : (Lit.int .u16 n).wf = true) : 0 ≤ n ∧ n ≤ 65535 := by
  simp [Lit.wf, IntKind.min, IntKind.max, IntKind.signed, IntKind.bits] at h; omega
theorem own : ownKnob Try.prog.godebug = none := by kernel_rfl
theorem laidOut : laidOutB Try.prog = true := by kernel_rfl

set_option maxRecDepth 100000 in
set_option maxHeartbeats 1000000 in
theorem lifted (os : Os) (started : os.Started) (H : Type) (enc : TypeId × Value → H) :
    ReturnsInHanded {} Try.checked os 9 .any (Rows.countBoundsSpec.pre6 enc Try.prog Try.f9 Rows.countBoundsRow.domain false) (Rows.countBoundsSpec.post enc Try.prog Try.f9 false true false false) := by
  refine returnsInHanded_of_change_sized (C := Try.checked) own started (by kernel_rfl) Try.func9
    (ChangeSpec.witness6 (enc := enc) (C := Try.checked) false ⟨#[], #[.agg #[.int .i32 0, .int .u16 0, .int .u16 0, .int .u16 0, .int .u16 0], .slice none 0 0], []⟩ 8 (by kernel_rfl) (by kernel_rfl) (by kernel_rfl) (by kernel_rfl)) ?_
  intro W base args ds gs before hval0 hW hcnd hsz0 _
  have hval : ∀ (j : Nat) t v, Try.f9.params[j]? = some t → args[j]? = some v → Value.okWide Try.prog W .any base t v := hval0
  have hsz : (DataW.weightsEach Try.prog (Try.f9.params.toList ++ Rows.countBoundsSpec.plain.varTypes Try.prog) (ds ++ gs)).all (· ≤ reachBytes) = true := hsz0
  have hW' := hW
  obtain ⟨p, q, hA0, hV, rfl, hfz, hnd⟩ := hW
  have hA : DataW.TrodAll enc Try.prog W 0 (fun _ => true) true Try.f9.params.toList args.toList ds p := hA0
  rw [Try.params9] at hA hval hsz
  obtain ⟨v0, vs0, d0, ds0, p0, q0, hargs, rfl, rfl, h0, r0⟩ := trodAll_cons hA
  obtain ⟨v1, vs1, d1, ds1, p1, q1, rfl, rfl, rfl, h1, r1⟩ := trodAll_cons r0
  obtain ⟨rfl, rfl, rfl⟩ := trodAll_nil r1
  obtain rfl : args = #[v0, v1] := by cases args; simp_all
  obtain ⟨rfl, rfl⟩ := trodVars_none hV
  have wg0 := weighs_of hsz 0 rfl rfl
  have wg1 := weighs_of hsz 1 rfl rfl
  have k0 := h0
  have lt0 : ∀ x ∈ p0, x.block < W.heap.size := by obtain ⟨m, hm⟩ := k0; exact DataW.trod_lt m _ _ _ hm
  obtain ⟨zc0, zc1, zc2, zc3, zc4, zy0, zy1, zy2, zy3, zy4, zm, rfl, rfl, rfl, zg0, zg1, zg2, zg3, zg4⟩ := open_agg5 Try.underlying31 (by kernel_rfl) (by kernel_rfl) (hval 0 _ v0 rfl rfl) h0
  obtain ⟨za0, ze0, rfl, zw0⟩ := DataW.trod_int Try.underlying21 zg0
  obtain ⟨za1, ze1, rfl, zw1⟩ := DataW.trod_int Try.underlying29 zg1
  obtain ⟨za2, ze2, rfl, zw2⟩ := DataW.trod_int Try.underlying29 zg2
  obtain ⟨za3, ze3, rfl, zw3⟩ := DataW.trod_int Try.underlying29 zg3
  obtain ⟨za4, ze4, rfl, zw4⟩ := DataW.trod_int Try.underlying29 zg4
  simp only [List.cons.injEq, and_true] at ze0 ze1 ze2 ze3 ze4
  subst ze0 ze1 ze2 ze3 ze4
  have k1 := h1
  have lt1 : ∀ x ∈ p1, x.block < W.heap.size := by obtain ⟨m, hm⟩ := k1; exact DataW.trod_lt m _ _ _ hm
  obtain ⟨A1, n1, c1, ms1, rfl, rb1, ok1, cc1, ln1⟩ := open_moves (hval 1 _ v1 rfl rfl) h1 wg1
  clear hA0 hval0
  refine (bounds_walk za0 za1 za2 za3 za4 (bi32 zw0).1 (bi32 zw0).2 (bu16 zw3).1 (bu16 zw3).2 (bu16 zw4).1 (bu16 zw4).2 A1 n1 c1 ms1 W rb1 ok1 cc1 ln1).mono fun e W' ⟨he, bel⟩ => ?_
  subst he
  exact ⟨_, rfl, _, _, _, [], _, [], hW', trodAll_mk1 (shut_bool Try.underlying4 _), (trodAll_cons_mk (Below.trod laidOut (by kernel_rfl) (of_decide_eq_true (by kernel_rfl)) k0 bel lt0) (trodAll_cons_mk (Below.trod laidOut (by kernel_rfl) (of_decide_eq_true (by kernel_rfl)) k1 bel lt1) trodAll_mk0)), rfl, bel.frame _, fun h => by cases h⟩

theorem over : Rows.countBoundsRow.holds Try.pinned (OpenSpec.ofChange Rows.countBoundsSpec) :=
  OpenClaim.holds_of_wide 9 Try.f9 rfl rfl rfl rfl rfl rfl rfl ⟨rfl, rfl, rfl, rfl, rfl⟩ rfl rfl rfl rfl rfl (by kernel_rfl) Try.func9 (by kernel_rfl)
    (of_decide_eq_true (by kernel_rfl)) (by unfold Func.isWrapper; first | (rw [if_pos (by decide +kernel)]; kernel_rfl) | (rw [if_neg (by decide +kernel)]; exact ⟨rfl, rfl⟩))
    (fun os started H enc _ => lifted os started H enc)

theorem proved : Rows.CountBoundsSaid := over
#print axioms proved
end Go.Proofs.Ytmkggjhlacajaaa.lawCountBounds
