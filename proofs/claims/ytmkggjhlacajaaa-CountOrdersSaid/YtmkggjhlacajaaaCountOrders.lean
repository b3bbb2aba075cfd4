/- CountOrders of package skaldlaw07 returns true for every input and leaves its arguments as they were: no condition. -/
import Derived.Test.YtmkggjhlacajaaaOrdA
import Derived.Test.YtmkggjhlacajaaaOrdB
import Derived.Test.YtmkggjhlacajaaaAgg
namespace Go.Proofs.Ytmkggjhlacajaaa.lawCountOrders
open Go.Proofs.Ytmkggjhlacajaaa
open Go.ChangeShapes Go.WideShapes Go.ChangeAt Go.RowKit Go.Joins
open Go.ChangeMaps (open_string shut_string)
set_option linter.unusedSimpArgs false
set_option linter.unusedVariables false
theorem wf_i32b {n : Int} (h : (Lit.int .i32 n).wf = true) : -2147483648 ≤ n ∧ n ≤ 2147483647 := by
  simp [Lit.wf, IntKind.min, IntKind.max, IntKind.signed, IntKind.bits] at h; omega
theorem wf_u16b {n : Int} (h : (Lit.int .u16 n).wf = true) : 0 ≤ n ∧ n ≤ 65535 := by
  simp [Lit.wf, IntKind.min, IntKind.max, IntKind.signed, IntKind.bits] at h; omega
theorem wf_i16b {n : Int} (h : (Lit.int .i16 n).wf = true) : -32768 ≤ n ∧ n ≤ 32767 := by
  simp [Lit.wf, IntKind.min, IntKind.max, IntKind.signed, IntKind.bits] at h; omega
theorem wf_i64b {n : Int} (h : (Lit.int .i64 n).wf = true) : -9223372036854775808 ≤ n ∧ n ≤ 9223372036854775807 := by
  simp [Lit.wf, IntKind.min, IntKind.max, IntKind.signed, IntKind.bits] at h; omega
set_option maxHeartbeats 8000000 in
theorem walk (a0_0 : Int) (a0_1 : Int) (a0_2 : Int) (a0_3 : Int) (a0_4 : Int) (w0_0 : (Lit.int .i32 a0_0).wf = true) (w0_1 : (Lit.int .u16 a0_1).wf = true) (w0_2 : (Lit.int .u16 a0_2).wf = true) (w0_3 : (Lit.int .u16 a0_3).wf = true) (w0_4 : (Lit.int .u16 a0_4).wf = true) (a1 : Int) (w1 : (Lit.int .i16 a1).wf = true) (a2 : Int) (w2 : (Lit.int .i16 a2).wf = true) (a3 : Int) (w3 : (Lit.int .i16 a3).wf = true) (a4 : Bool) (w : World) :
    Calls Try.prog 6 #[.agg #[.int .i32 a0_0, .int .u16 a0_1, .int .u16 a0_2, .int .u16 a0_3, .int .u16 a0_4], .int .i16 a1, .int .i16 a2, .int .i16 a3, .bool a4] w fun e w' => e = .returned (.bool true) ∧ Below w.heap.size w w' := by
  obtain ⟨l1, l2⟩ := wf_i32b w0_0
  obtain ⟨l3, l4⟩ := wf_u16b w0_1
  obtain ⟨l5, l6⟩ := wf_u16b w0_2
  obtain ⟨l7, l8⟩ := wf_u16b w0_3
  obtain ⟨l9, l10⟩ := wf_u16b w0_4
  obtain ⟨p1, p2⟩ := wf_i16b w1
  obtain ⟨b1, b2⟩ := wf_i16b w2
  obtain ⟨h1, h2⟩ := wf_i16b w3
  clear w0_0 w0_1 w0_2 w0_3 w0_4 w1 w2 w3
  have hM := made_ck l1 l2 l3 l4 l5 l6 l7 l8 l9 l10
  rcases do_or hM h1 h2 with ⟨q1, _⟩ | ⟨cv, cu, cd, q1, hC, e1, r1⟩
  · cases a4 with
    | true => exact ord_e a0_0 a0_1 a0_2 a0_3 a0_4 a3 a1 a2 l1 l2 l3 l4 l5 l6 l7 l8 l9 l10 h1 h2 p1 p2 b1 b2 (Lib.hid q1) w
    | false => exact ord_e_ a0_0 a0_1 a0_2 a0_3 a0_4 a3 a1 a2 l1 l2 l3 l4 l5 l6 l7 l8 l9 l10 h1 h2 p1 p2 b1 b2 (Lib.hid q1) w
  rcases do_or hC p1 p2 with ⟨q2, _⟩ | ⟨xv, xu, xd, q2, hx, e2, r2⟩
  · cases a4 with
    | true => exact ord_f a0_0 a0_1 a0_2 a0_3 a0_4 a3 a1 a2 l1 l2 l3 l4 l5 l6 l7 l8 l9 l10 h1 h2 p1 p2 b1 b2 cv cu cd (Lib.hid q1) (Lib.hid q2) w
    | false => exact ord_f_ a0_0 a0_1 a0_2 a0_3 a0_4 a3 a1 a2 l1 l2 l3 l4 l5 l6 l7 l8 l9 l10 h1 h2 p1 p2 b1 b2 cv cu cd (Lib.hid q1) (Lib.hid q2) w
  rcases do_or hx b1 b2 with ⟨q3, _⟩ | ⟨yv, yu, yd, q3, hy, e3, r3⟩
  · cases a4 with
    | true => exact ord_g a0_0 a0_1 a0_2 a0_3 a0_4 a3 a1 a2 l1 l2 l3 l4 l5 l6 l7 l8 l9 l10 h1 h2 p1 p2 b1 b2 cv cu cd xv xu xd (Lib.hid q1) (Lib.hid q2) (Lib.hid q3) w
    | false => exact ord_g_ a0_0 a0_1 a0_2 a0_3 a0_4 a3 a1 a2 l1 l2 l3 l4 l5 l6 l7 l8 l9 l10 h1 h2 p1 p2 b1 b2 cv cu cd xv xu xd (Lib.hid q1) (Lib.hid q2) (Lib.hid q3) w
  have lM := ckOK_lin hM
  have lC := ckOK_lin hC
  cases a4 with
  | true =>
    obtain ⟨zv, zu, zd, q4, hz, e4, r4⟩ := free_held hy h1 h2 (by omega)
    obtain ⟨sv, su, sd, q5, hs, e5, r5⟩ := free_held hx h1 h2 (by omega)
    have lx := ckOK_lin hx
    have ly := ckOK_lin hy
    have ls := ckOK_lin hs
    rcases do_or hs b1 b2 with ⟨q6, hb⟩ | ⟨tv, tu, td, q6, ht, e6, r6⟩
    · exfalso; omega
    · obtain rfl : tv = zv := by omega
      obtain rfl : tu = zu := by omega
      obtain rfl : td = zd := by omega
      rcases do_or hC b1 b2 with ⟨q7, _⟩ | ⟨uv, uu, ud, q7, hu, e7, r7⟩
      · exact ord_jnn a0_0 a0_1 a0_2 a0_3 a0_4 a3 a1 a2 l1 l2 l3 l4 l5 l6 l7 l8 l9 l10 h1 h2 p1 p2 b1 b2 cv cu cd xv xu xd yv yu yd _ _ _ sv su sd (Lib.hid q1) (Lib.hid q2) (Lib.hid q3) (Lib.hid q4) (Lib.hid q5) (Lib.hid q6) (Lib.hid q7) w
      rcases do_or hu p1 p2 with ⟨q8, _⟩ | ⟨wv, wu, wd, q8, hw, e8, r8⟩
      · exact ord_jkn a0_0 a0_1 a0_2 a0_3 a0_4 a3 a1 a2 l1 l2 l3 l4 l5 l6 l7 l8 l9 l10 h1 h2 p1 p2 b1 b2 cv cu cd xv xu xd yv yu yd _ _ _ sv su sd uv uu ud (Lib.hid q1) (Lib.hid q2) (Lib.hid q3) (Lib.hid q4) (Lib.hid q5) (Lib.hid q6) (Lib.hid q7) (Lib.hid q8) w
      obtain rfl : wv = yv := by omega
      obtain rfl : wu = yu := by omega
      obtain rfl : wd = yd := by omega
      exact ord_jkm a0_0 a0_1 a0_2 a0_3 a0_4 a3 a1 a2 l1 l2 l3 l4 l5 l6 l7 l8 l9 l10 h1 h2 p1 p2 b1 b2 cv cu cd xv xu xd _ _ _ _ _ _ sv su sd uv uu ud (Lib.hid q1) (Lib.hid q2) (Lib.hid q3) (Lib.hid q4) (Lib.hid q5) (Lib.hid q6) (Lib.hid q7) (Lib.hid q8) w
  | false =>
    obtain ⟨zv, zu, zd, q4, hz, e4, r4⟩ := undo_held hy h1 h2 (by omega)
    obtain ⟨sv, su, sd, q5, hs, e5, r5⟩ := undo_held hx h1 h2 (by omega)
    have lx := ckOK_lin hx
    have ly := ckOK_lin hy
    have ls := ckOK_lin hs
    rcases do_or hs b1 b2 with ⟨q6, hb⟩ | ⟨tv, tu, td, q6, ht, e6, r6⟩
    · skip
      rcases do_or hC b1 b2 with ⟨q7, _⟩ | ⟨uv, uu, ud, q7, hu, e7, r7⟩
      · exact ord_nnn_ a0_0 a0_1 a0_2 a0_3 a0_4 a3 a1 a2 l1 l2 l3 l4 l5 l6 l7 l8 l9 l10 h1 h2 p1 p2 b1 b2 cv cu cd xv xu xd yv yu yd zv zu zd sv su sd (Lib.hid q1) (Lib.hid q2) (Lib.hid q3) (Lib.hid q4) (Lib.hid q5) (Lib.hid q6) (Lib.hid q7) w
      rcases do_or hu p1 p2 with ⟨q8, _⟩ | ⟨wv, wu, wd, q8, hw, e8, r8⟩
      · exact ord_nkn_ a0_0 a0_1 a0_2 a0_3 a0_4 a3 a1 a2 l1 l2 l3 l4 l5 l6 l7 l8 l9 l10 h1 h2 p1 p2 b1 b2 cv cu cd xv xu xd yv yu yd zv zu zd sv su sd uv uu ud (Lib.hid q1) (Lib.hid q2) (Lib.hid q3) (Lib.hid q4) (Lib.hid q5) (Lib.hid q6) (Lib.hid q7) (Lib.hid q8) w
      obtain rfl : wv = yv := by omega
      obtain rfl : wu = yu := by omega
      obtain rfl : wd = yd := by omega
      exact ord_nkm_ a0_0 a0_1 a0_2 a0_3 a0_4 a3 a1 a2 l1 l2 l3 l4 l5 l6 l7 l8 l9 l10 h1 h2 p1 p2 b1 b2 cv cu cd xv xu xd _ _ _ zv zu zd sv su sd uv uu ud (Lib.hid q1) (Lib.hid q2) (Lib.hid q3) (Lib.hid q4) (Lib.hid q5) (Lib.hid q6) (Lib.hid q7) (Lib.hid q8) w
    · obtain rfl : tv = zv := by omega
      obtain rfl : tu = zu := by omega
      obtain rfl : td = zd := by omega
      rcases do_or hC b1 b2 with ⟨q7, _⟩ | ⟨uv, uu, ud, q7, hu, e7, r7⟩
      · exact ord_jnn_ a0_0 a0_1 a0_2 a0_3 a0_4 a3 a1 a2 l1 l2 l3 l4 l5 l6 l7 l8 l9 l10 h1 h2 p1 p2 b1 b2 cv cu cd xv xu xd yv yu yd _ _ _ sv su sd (Lib.hid q1) (Lib.hid q2) (Lib.hid q3) (Lib.hid q4) (Lib.hid q5) (Lib.hid q6) (Lib.hid q7) w
      rcases do_or hu p1 p2 with ⟨q8, _⟩ | ⟨wv, wu, wd, q8, hw, e8, r8⟩
      · exact ord_jkn_ a0_0 a0_1 a0_2 a0_3 a0_4 a3 a1 a2 l1 l2 l3 l4 l5 l6 l7 l8 l9 l10 h1 h2 p1 p2 b1 b2 cv cu cd xv xu xd yv yu yd _ _ _ sv su sd uv uu ud (Lib.hid q1) (Lib.hid q2) (Lib.hid q3) (Lib.hid q4) (Lib.hid q5) (Lib.hid q6) (Lib.hid q7) (Lib.hid q8) w
      obtain rfl : wv = yv := by omega
      obtain rfl : wu = yu := by omega
      obtain rfl : wd = yd := by omega
      exact ord_jkm_ a0_0 a0_1 a0_2 a0_3 a0_4 a3 a1 a2 l1 l2 l3 l4 l5 l6 l7 l8 l9 l10 h1 h2 p1 p2 b1 b2 cv cu cd xv xu xd _ _ _ _ _ _ sv su sd uv uu ud (Lib.hid q1) (Lib.hid q2) (Lib.hid q3) (Lib.hid q4) (Lib.hid q5) (Lib.hid q6) (Lib.hid q7) (Lib.hid q8) w

theorem own : ownKnob Try.prog.godebug = none := by kernel_rfl
theorem laidOut : laidOutB Try.prog = true := by kernel_rfl

set_option maxRecDepth 100000 in
set_option maxHeartbeats 1000000 in
theorem lifted (os : Os) (started : os.Started) (H : Type) (enc : TypeId × Value → H) :
    ReturnsInHanded {} Try.checked os 6 .any (Rows.countOrdersSpec.pre6 enc Try.prog Try.f6 Rows.countOrdersRow.domain false) (Rows.countOrdersSpec.post enc Try.prog Try.f6 false true false false) := by
  refine returnsInHanded_of_change (C := Try.checked) own started (by kernel_rfl) Try.func6
    (ChangeSpec.witness6 (enc := enc) (C := Try.checked) false ⟨#[], #[.agg #[.int .i32 0, .int .u16 0, .int .u16 0, .int .u16 0, .int .u16 0], .int .i16 0, .int .i16 0, .int .i16 0, .bool false], []⟩ 8 (by kernel_rfl) (by kernel_rfl) (by kernel_rfl) (by kernel_rfl)) ?_
  intro W base args ds gs before hval0 hW hcnd _
  have hval : ∀ (j : Nat) t v, Try.f6.params[j]? = some t → args[j]? = some v → Value.okWide Try.prog W .any base t v := hval0
  have hW' := hW
  obtain ⟨p, q, hA0, hV, rfl, hfz, hnd⟩ := hW
  have hA : DataW.TrodAll enc Try.prog W 0 (fun _ => true) true Try.f6.params.toList args.toList ds p := hA0
  rw [Try.params6] at hA hval
  obtain ⟨v0, vs0, d0, ds0, p0, q0, hargs, rfl, rfl, h0, r0⟩ := trodAll_cons hA
  obtain ⟨v1, vs1, d1, ds1, p1, q1, rfl, rfl, rfl, h1, r1⟩ := trodAll_cons r0
  obtain ⟨v2, vs2, d2, ds2, p2, q2, rfl, rfl, rfl, h2, r2⟩ := trodAll_cons r1
  obtain ⟨v3, vs3, d3, ds3, p3, q3, rfl, rfl, rfl, h3, r3⟩ := trodAll_cons r2
  obtain ⟨v4, vs4, d4, ds4, p4, q4, rfl, rfl, rfl, h4, r4⟩ := trodAll_cons r3
  obtain ⟨rfl, rfl, rfl⟩ := trodAll_nil r4
  obtain rfl : args = #[v0, v1, v2, v3, v4] := by cases args; simp_all
  obtain ⟨rfl, rfl⟩ := trodVars_none hV
  have k0 := h0
  have lt0 : ∀ x ∈ p0, x.block < W.heap.size := by obtain ⟨m, hm⟩ := k0; exact DataW.trod_lt m _ _ _ hm
  obtain ⟨c0_0, c0_1, c0_2, c0_3, c0_4, y0_0, y0_1, y0_2, y0_3, y0_4, m0, rfl, rfl, rfl, g0_0, g0_1, g0_2, g0_3, g0_4⟩ := open_agg5 Try.underlying31 (by kernel_rfl) (by kernel_rfl) (hval 0 31 v0 rfl rfl) h0
  obtain ⟨a0_0, e0_0, rfl, w0_0⟩ := DataW.trod_int Try.underlying21 g0_0
  obtain ⟨a0_1, e0_1, rfl, w0_1⟩ := DataW.trod_int Try.underlying29 g0_1
  obtain ⟨a0_2, e0_2, rfl, w0_2⟩ := DataW.trod_int Try.underlying29 g0_2
  obtain ⟨a0_3, e0_3, rfl, w0_3⟩ := DataW.trod_int Try.underlying29 g0_3
  obtain ⟨a0_4, e0_4, rfl, w0_4⟩ := DataW.trod_int Try.underlying29 g0_4
  simp only [List.cons.injEq, and_true] at e0_0 e0_1 e0_2 e0_3 e0_4
  subst e0_0 e0_1 e0_2 e0_3 e0_4
  have k1 := h1
  have lt1 : ∀ x ∈ p1, x.block < W.heap.size := by obtain ⟨m, hm⟩ := k1; exact DataW.trod_lt m _ _ _ hm
  obtain ⟨a1, rfl, rfl, rfl, w1⟩ := open_int Try.underlying39 (hval 1 39 v1 rfl rfl) h1
  have k2 := h2
  have lt2 : ∀ x ∈ p2, x.block < W.heap.size := by obtain ⟨m, hm⟩ := k2; exact DataW.trod_lt m _ _ _ hm
  obtain ⟨a2, rfl, rfl, rfl, w2⟩ := open_int Try.underlying39 (hval 2 39 v2 rfl rfl) h2
  have k3 := h3
  have lt3 : ∀ x ∈ p3, x.block < W.heap.size := by obtain ⟨m, hm⟩ := k3; exact DataW.trod_lt m _ _ _ hm
  obtain ⟨a3, rfl, rfl, rfl, w3⟩ := open_int Try.underlying39 (hval 3 39 v3 rfl rfl) h3
  have k4 := h4
  have lt4 : ∀ x ∈ p4, x.block < W.heap.size := by obtain ⟨m, hm⟩ := k4; exact DataW.trod_lt m _ _ _ hm
  obtain ⟨a4, rfl, rfl, rfl⟩ := open_bool Try.underlying4 (hval 4 4 v4 rfl rfl) h4
  clear hA0 hval0
  refine (walk a0_0 a0_1 a0_2 a0_3 a0_4 w0_0 w0_1 w0_2 w0_3 w0_4 a1 w1 a2 w2 a3 w3 a4 W).mono fun e W' ⟨he, bel⟩ => ?_
  subst he
  exact ⟨_, rfl, _, _, _, [], _, [], hW', trodAll_mk1 (shut_bool Try.underlying4 _), (trodAll_cons_mk (Below.trod laidOut (by kernel_rfl) (of_decide_eq_true (by kernel_rfl)) k0 bel lt0) (trodAll_cons_mk (Below.trod laidOut (by kernel_rfl) (of_decide_eq_true (by kernel_rfl)) k1 bel lt1) (trodAll_cons_mk (Below.trod laidOut (by kernel_rfl) (of_decide_eq_true (by kernel_rfl)) k2 bel lt2) (trodAll_cons_mk (Below.trod laidOut (by kernel_rfl) (of_decide_eq_true (by kernel_rfl)) k3 bel lt3) (trodAll_cons_mk (Below.trod laidOut (by kernel_rfl) (of_decide_eq_true (by kernel_rfl)) k4 bel lt4) trodAll_mk0))))), rfl, bel.frame _, fun h => by cases h⟩

theorem over : Rows.countOrdersRow.holds Try.pinned (OpenSpec.ofChange Rows.countOrdersSpec) :=
  OpenClaim.holds_of_wide 6 Try.f6 rfl rfl rfl rfl rfl rfl rfl ⟨rfl, rfl, rfl, rfl, rfl⟩ rfl rfl rfl rfl rfl (by kernel_rfl) Try.func6 (by kernel_rfl)
    (of_decide_eq_true (by kernel_rfl)) (by unfold Func.isWrapper; first | (rw [if_pos (by decide +kernel)]; kernel_rfl) | (rw [if_neg (by decide +kernel)]; exact ⟨rfl, rfl⟩))
    (fun os started H enc _ => lifted os started H enc)

theorem proved : Rows.CountOrdersSaid := over
#print axioms proved
end Go.Proofs.Ytmkggjhlacajaaa.lawCountOrders
