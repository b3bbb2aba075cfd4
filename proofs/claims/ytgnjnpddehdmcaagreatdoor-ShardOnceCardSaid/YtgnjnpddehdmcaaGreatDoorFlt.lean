/- What text and number make; their closures. -/
import Derived.Test.YtgnjnpddehdmcaaGreatDoorShort
import Derived.OrdersHeld
import Derived.Test.YtgnjnpddehdmcaaGreatDoorRowK
namespace Go.Proofs.YtgnjnpddehdmcaaGreatDoor
open Go.RowKit Go.Shelf
set_option linter.unusedSimpArgs false
set_option linter.unusedVariables false
set_option linter.unusedSectionVars false
set_option maxRecDepth 10000
theorem text_any (ga go gs : Nat) (w : World) : Calls Tryz.prog 105 #[.func (.func ga) #[] #[], .func (.func go) #[] #[], .func (.func gs) #[] #[]] w fun e w' => e = .returned (.agg #[.func (.func 191) #[] #[.pointer (some ⟨w.heap.size + 1, 0, none⟩), .pointer (some ⟨w.heap.size, 0, none⟩)], .func (.func 192) #[] #[.pointer (some ⟨w.heap.size, 0, none⟩)], .func (.func 193) #[] #[.pointer (some ⟨w.heap.size, 0, none⟩)], .func (.func 194) #[] #[.pointer (some ⟨w.heap.size + 2, 0, none⟩), .pointer (some ⟨w.heap.size, 0, none⟩)], .func (.func 195) #[] #[.pointer (some ⟨w.heap.size, 0, none⟩)]]) ∧ Below w.heap.size w w' ∧ w'.heap[w.heap.size]? = some (.cells #[.func (.func ga) #[] #[]] 176 (0, 0)) ∧ w'.heap[w.heap.size + 1]? = some (.cells #[.func (.func go) #[] #[]] 128 (0, 0)) := by
 go_enter Tryz.func105, Tryz.ntmps105
 go_wp2_with (fail)
 refine bodyPost_ret (by simp [results, Tryz.results105, go_sem, *]; try with_reducible rfl) rfl ?_
 exact ⟨rfl, by repeat (first | exact Below.refl _ _ | refine Below.setCell ?_ (by simp <;> omega) _ | refine Below.alloc ?_ (by simp <;> omega) _), by repeat (first | exact hpNewAt _ (by simp) | exact hpNew _ _ | refine (hpFar (by simp <;> omega)).trans ?_ | refine (hpOld _ (by simp <;> omega)).trans ?_), by repeat (first | exact hpNewAt _ (by simp) | exact hpNew _ _ | refine (hpFar (by simp <;> omega)).trans ?_ | refine (hpOld _ (by simp <;> omega)).trans ?_)⟩
theorem number_any (ga : Nat) (lo hi : Int) (w : World) : Calls Tryz.prog 117 #[.func (.func ga) #[] #[], .int .i64 lo, .int .i64 hi] w fun e w' => e = .returned (.agg #[.func (.func 202) #[] #[.pointer (some ⟨w.heap.size, 0, none⟩), .pointer (some ⟨w.heap.size + 1, 0, none⟩), .pointer (some ⟨w.heap.size + 2, 0, none⟩)], .func (.func 204) #[] #[.pointer (some ⟨w.heap.size, 0, none⟩)], .func (.func 205) #[] #[.pointer (some ⟨w.heap.size + 2, 0, none⟩), .pointer (some ⟨w.heap.size, 0, none⟩)], .func (.func 206) #[] #[.pointer (some ⟨w.heap.size, 0, none⟩)], .func (.func 207) #[] #[.pointer (some ⟨w.heap.size, 0, none⟩)]]) ∧ Below w.heap.size w w' ∧ w'.heap[w.heap.size]? = some (.cells #[.func (.func ga) #[] #[]] 184 (0, 0)) ∧ w'.heap[w.heap.size + 1]? = some (.cells #[.int .i64 lo] 3 (0, 0)) ∧ w'.heap[w.heap.size + 2]? = some (.cells #[.int .i64 hi] 3 (0, 0)) := by
 go_enter Tryz.func117, Tryz.ntmps117
 go_wp2_with (fail)
 refine bodyPost_ret (by simp [results, Tryz.results117, go_sem, *]; try with_reducible rfl) rfl ?_
 exact ⟨rfl, by repeat (first | exact Below.refl _ _ | refine Below.setCell ?_ (by simp <;> omega) _ | refine Below.alloc ?_ (by simp <;> omega) _), by repeat (first | exact hpNewAt _ (by simp) | exact hpNew _ _ | refine (hpFar (by simp <;> omega)).trans ?_ | refine (hpOld _ (by simp <;> omega)).trans ?_), by repeat (first | exact hpNewAt _ (by simp) | exact hpNew _ _ | refine (hpFar (by simp <;> omega)).trans ?_ | refine (hpOld _ (by simp <;> omega)).trans ?_), by repeat (first | exact hpNewAt _ (by simp) | exact hpNew _ _ | refine (hpFar (by simp <;> omega)).trans ?_ | refine (hpOld _ (by simp <;> omega)).trans ?_)⟩
theorem within_any (a lo hi : Int) (w : World) : Calls Tryz.prog 203 #[.int .i64 a, .int .i64 lo, .int .i64 hi] w fun e w' => e = .returned (.bool (decide (lo ≤ a) && decide (a ≤ hi))) ∧ w' = w := by
 by_cases h1 : lo ≤ a
 ·
  by_cases h2 : a ≤ hi
  ·
   rw [decide_eq_true h1, decide_eq_true h2]
   go_enter Tryz.func203, Tryz.ntmps203
   go_wp2_with (fail)
   go_ret
   exact ⟨rfl, rfl⟩
  ·
   rw [decide_eq_true h1, decide_eq_false h2]
   go_enter Tryz.func203, Tryz.ntmps203
   go_wp2_with (fail)
   go_ret
   exact ⟨rfl, rfl⟩
 ·
  rw [decide_eq_false h1]
  go_enter Tryz.func203, Tryz.ntmps203
  go_wp2_with (fail)
  go_ret
  exact ⟨rfl, rfl⟩
theorem text1 {ga go : Nat} (ega : ∀ args w, (callFunc ga args).run Tryz.prog w = .ok (.enter ga args) w)(ego : ∀ args w, (callFunc go args).run Tryz.prog w = .ok (.enter go args) w) {key : ByteArray} {o : Bool} {b j : Nat} {cs : Array Value} {T : TypeId} {fr : Nat × Nat} {ob ab : Nat} {v : World} (hb : v.heap[b]? = some (.cells cs T fr)) (hj : cs[j]? = some (.string key))  (hob : v.heap[ob]? = some (.cells #[.func (.func go) #[] #[]] 128 (0, 0))) (hab : v.heap[ab]? = some (.cells #[.func (.func ga) #[] #[]] 176 (0, 0))) (ca : ∀ W, Calls Tryz.prog ga #[.pointer (some ⟨b, 0, none⟩)] W fun e W' => e = .returned (.pointer (some ⟨b, j, none⟩)) ∧ W' = W) (co : ∀ W, Calls Tryz.prog go #[.string key] W fun e W' => e = .returned (.bool o) ∧ Below W.heap.size W W') : Calls Tryz.prog 191 #[.pointer (some ⟨b, 0, none⟩), .pointer (some ⟨ob, 0, none⟩), .pointer (some ⟨ab, 0, none⟩)] v fun e w' => e = .returned (.bool o) ∧ Below v.heap.size v w' := by
 obtain ⟨Y, hY⟩ : ∃ W, W = v.drew := ⟨_, rfl⟩
 have bd : Below v.heap.size v Y := by rw [hY]; exact (Below.refl _ _).drew
 have qb := Lh ((bd.block _ (blkX hb)).trans hb)
 have qob := Lh ((bd.block _ (blkX hob)).trans hob)
 have qab := Lh ((bd.block _ (blkX hab)).trans hab)
 replace bd := Lh bd
 replace hb := Lh hb
 replace hob := Lh hob
 replace hab := Lh hab
 replace hY := Lh hY
 have hS0 := Lh (show (fun W' : World => W'.heap[b]? = some (.cells cs T fr) ∧ W'.heap[ob]? = some (.cells #[.func (.func go) #[] #[]] 128 (0, 0)) ∧ W'.heap[ab]? = some (.cells #[.func (.func ga) #[] #[]] 176 (0, 0))) Y from ⟨qb.out, qob.out, qab.out⟩)
 go_enter Tryz.func191, Tryz.ntmps191
 go_wp2_with (fail)
 refine wp_region_held_drew (S := (fun W' : World => W'.heap[b]? = some (.cells cs T fr) ∧ W'.heap[ob]? = some (.cells #[.func (.func go) #[] #[]] 128 (0, 0)) ∧ W'.heap[ab]? = some (.cells #[.func (.func ga) #[] #[]] 176 (0, 0)))) (by kernel_rfl) ?_ (fun hH => ?_)
 ·
  rw [← hY.out]
  exact hS0.out
 refine tk (i := 0) (v := ?_) (hy := .inl ⟨by rfl, by intro w hSw; obtain ⟨sB, s0, s1⟩ := hSw; have t0 : w.cell? ⟨ob, 0, none⟩ = some (.func (.func go) #[] #[]) := blkC s0 0; go_simp; first | done | with_reducible rfl⟩) (hS := hH) (h := ?_)
 refine tk (i := 1) (v := ?_) (hy := .inl ⟨by rfl, by intro w hSw; obtain ⟨sB, s0, s1⟩ := hSw; have t0 : w.cell? ⟨ab, 0, none⟩ = some (.func (.func ga) #[] #[]) := blkC s1 0; go_simp; first | done | with_reducible rfl⟩) (hS := hH) (h := ?_)
 refine tl 2 hH ?_
 refine wpAnyH_ready (rs := [3]) (by kernel_rfl) (by simp) ?_
 refine AllReadyH.cons rfl (fun K hK => ?_) ?_
 ·
  clear hH
  try rw [← hY.out]
  go_simp
  refine (ca _).mono ?_
  rintro e W' ⟨rfl, rfl⟩
  refine hK _ _ hS0.out (fun hH => ?_)
  clear hK K
  refine tl 4 hH ?_
  refine tk (i := 5) (v := ?_) (hy := .inl ⟨by rfl, by intro w hSw; obtain ⟨sB, s0, s1⟩ := hSw; have t0 : w.cell? ⟨b, j, none⟩ = some (.string key) := (blkC sB j).trans hj; go_simp; first | done | with_reducible rfl⟩) (hS := hH) (h := ?_)
  refine wpAnyH_ready (rs := [6]) (by kernel_rfl) (by simp) ?_
  refine AllReadyH.cons rfl (fun K hK => ?_) ?_
  ·
   clear hH
   try rw [← hY.out]
   go_simp
   refine (co _).mono ?_
   rintro e W' ⟨rfl, bb⟩
   have k2 := Lh (bd.out.trans (bb.mono bd.out.size))
   refine hK _ _ ⟨(bb.block _ (blkX qb.out)).trans qb.out, (bb.block _ (blkX qob.out)).trans qob.out, (bb.block _ (blkX qab.out)).trans qab.out⟩ (fun hH => ?_)
   clear hK K bb
   refine tl 7 hH ?_
   refine wpAnyH_done (by kernel_rfl) ?_ _
   clear hH
   go_wp2_with (fail)
   go_ret
   exact ⟨rfl, k2.out⟩
  exact AllReadyH.nil
 exact AllReadyH.nil
theorem number1 {ga : Nat} (ega : ∀ args w, (callFunc ga args).run Tryz.prog w = .ok (.enter ga args) w) {z lo hi : Int} {b j : Nat} {cs : Array Value} {T : TypeId} {fr : Nat × Nat} {ab lb mb : Nat} {v : World} (hb : v.heap[b]? = some (.cells cs T fr)) (hj : cs[j]? = some (.int .i64 z))  (hab : v.heap[ab]? = some (.cells #[.func (.func ga) #[] #[]] 184 (0, 0))) (hlb : v.heap[lb]? = some (.cells #[.int .i64 lo] 3 (0, 0))) (hmb : v.heap[mb]? = some (.cells #[.int .i64 hi] 3 (0, 0))) (ca : ∀ W, Calls Tryz.prog ga #[.pointer (some ⟨b, 0, none⟩)] W fun e W' => e = .returned (.pointer (some ⟨b, j, none⟩)) ∧ W' = W) : Calls Tryz.prog 202 #[.pointer (some ⟨b, 0, none⟩), .pointer (some ⟨ab, 0, none⟩), .pointer (some ⟨lb, 0, none⟩), .pointer (some ⟨mb, 0, none⟩)] v fun e w' => e = .returned (.bool (decide (lo ≤ z) && decide (z ≤ hi))) ∧ Below v.heap.size v w' := by
 obtain ⟨Y, hY⟩ : ∃ W, W = v.drew := ⟨_, rfl⟩
 have bd : Below v.heap.size v Y := by rw [hY]; exact (Below.refl _ _).drew
 have qb := Lh ((bd.block _ (blkX hb)).trans hb)
 have qab := Lh ((bd.block _ (blkX hab)).trans hab)
 have qlb := Lh ((bd.block _ (blkX hlb)).trans hlb)
 have qmb := Lh ((bd.block _ (blkX hmb)).trans hmb)
 replace bd := Lh bd
 replace hb := Lh hb
 replace hab := Lh hab
 replace hlb := Lh hlb
 replace hmb := Lh hmb
 replace hY := Lh hY
 have hS0 := Lh (show (fun W' : World => W'.heap[b]? = some (.cells cs T fr) ∧ W'.heap[ab]? = some (.cells #[.func (.func ga) #[] #[]] 184 (0, 0)) ∧ W'.heap[lb]? = some (.cells #[.int .i64 lo] 3 (0, 0)) ∧ W'.heap[mb]? = some (.cells #[.int .i64 hi] 3 (0, 0))) Y from ⟨qb.out, qab.out, qlb.out, qmb.out⟩)
 obtain ⟨r, hr⟩ : ∃ r, r = (decide (lo ≤ z) && decide (z ≤ hi)) := ⟨_, rfl⟩
 have hw := Lh (fun W => within_any z lo hi W)
 rw [← hr] at hw ⊢
 replace hr := Lh hr
 go_enter Tryz.func202, Tryz.ntmps202
 go_wp2_with (fail)
 refine wp_region_held_drew (S := (fun W' : World => W'.heap[b]? = some (.cells cs T fr) ∧ W'.heap[ab]? = some (.cells #[.func (.func ga) #[] #[]] 184 (0, 0)) ∧ W'.heap[lb]? = some (.cells #[.int .i64 lo] 3 (0, 0)) ∧ W'.heap[mb]? = some (.cells #[.int .i64 hi] 3 (0, 0)))) (by kernel_rfl) ?_ (fun hH => ?_)
 ·
  rw [← hY.out]
  exact hS0.out
 refine tk (i := 0) (v := ?_) (hy := .inl ⟨by rfl, by intro w hSw; obtain ⟨sB, s0, s1, s2⟩ := hSw; have t0 : w.cell? ⟨ab, 0, none⟩ = some (.func (.func ga) #[] #[]) := blkC s0 0; go_simp; first | done | with_reducible rfl⟩) (hS := hH) (h := ?_)
 refine tl 1 hH ?_
 refine tk (i := 5) (v := ?_) (hy := .inl ⟨by rfl, by intro w hSw; obtain ⟨sB, s0, s1, s2⟩ := hSw; have t0 : w.cell? ⟨lb, 0, none⟩ = some (.int .i64 lo) := blkC s1 0; go_simp; first | done | with_reducible rfl⟩) (hS := hH) (h := ?_)
 refine tk (i := 6) (v := ?_) (hy := .inl ⟨by rfl, by intro w hSw; obtain ⟨sB, s0, s1, s2⟩ := hSw; have t0 : w.cell? ⟨mb, 0, none⟩ = some (.int .i64 hi) := blkC s2 0; go_simp; first | done | with_reducible rfl⟩) (hS := hH) (h := ?_)
 refine wpAnyH_ready (rs := [2]) (by kernel_rfl) (by simp) ?_
 refine AllReadyH.cons rfl (fun K hK => ?_) ?_
 ·
  clear hH
  try rw [← hY.out]
  go_simp
  refine (ca _).mono ?_
  rintro e W' ⟨rfl, rfl⟩
  refine hK _ _ hS0.out (fun hH => ?_)
  clear hK K
  refine tl 3 hH ?_
  refine tk (i := 4) (v := ?_) (hy := .inl ⟨by rfl, by intro w hSw; obtain ⟨sB, s0, s1, s2⟩ := hSw; have t0 : w.cell? ⟨b, j, none⟩ = some (.int .i64 z) := (blkC sB j).trans hj; go_simp; first | done | with_reducible rfl⟩) (hS := hH) (h := ?_)
  refine wpAnyH_ready (rs := [7]) (by kernel_rfl) (by simp) ?_
  refine AllReadyH.cons rfl (fun K hK => ?_) ?_
  ·
   clear hH
   try rw [← hY.out]
   go_simp
   refine (hw.out _).mono ?_
   rintro e W' ⟨rfl, rfl⟩
   refine hK _ _ hS0.out (fun hH => ?_)
   clear hK K
   refine tl 8 hH ?_
   refine wpAnyH_done (by kernel_rfl) ?_ _
   clear hH
   go_wp2_with (fail)
   go_ret
   exact ⟨rfl, bd.out⟩
  exact AllReadyH.nil
 exact AllReadyH.nil
theorem text5 {ga : Nat} (ega : ∀ args w, (callFunc ga args).run Tryz.prog w = .ok (.enter ga args) w) {s : ByteArray} {b j : Nat} {cs : Array Value} {T : TypeId} {ab : Nat} {v : World} (hb : v.heap[b]? = some (.cells cs T (0, 0))) (hj : cs[j]? = some (.string s)) (hab : v.heap[ab]? = some (.cells #[.func (.func ga) #[] #[]] 176 (0, 0))) (ca : ∀ W, Calls Tryz.prog ga #[.pointer (some ⟨b, 0, none⟩)] W fun e W' => e = .returned (.pointer (some ⟨b, j, none⟩)) ∧ W' = W) : Calls Tryz.prog 195 #[.pointer (some ⟨b, 0, none⟩), .pointer (some ⟨ab, 0, none⟩)] v fun e w' => e = .returned (.tuple #[]) ∧ w' = v.setCell ⟨b, j, none⟩ (.string ⟨#[]⟩) := by
 have z0 : v.cell? ⟨ab, 0, none⟩ = some (.func (.func ga) #[] #[]) := blkC hab 0
 have zj : v.cell? ⟨b, j, none⟩ = some (.string s) := (blkC hb j).trans hj
 have hx := blkX hb
 have hf := blkF hb
 replace hb := Lh hb; replace hab := Lh hab
 go_enter Tryz.func195, Tryz.ntmps195
 go_wp2_with (fail)
 refine (ca _).mono ?_
 rintro e W' ⟨rfl, rfl⟩
 go_wp2_with (fail)
 go_end0
 exact ⟨rfl, rfl⟩
theorem number5 {ga : Nat} (ega : ∀ args w, (callFunc ga args).run Tryz.prog w = .ok (.enter ga args) w) {s : Int} {b j : Nat} {cs : Array Value} {T : TypeId} {ab : Nat} {v : World} (hb : v.heap[b]? = some (.cells cs T (0, 0))) (hj : cs[j]? = some (.int .i64 s)) (hab : v.heap[ab]? = some (.cells #[.func (.func ga) #[] #[]] 184 (0, 0))) (ca : ∀ W, Calls Tryz.prog ga #[.pointer (some ⟨b, 0, none⟩)] W fun e W' => e = .returned (.pointer (some ⟨b, j, none⟩)) ∧ W' = W) : Calls Tryz.prog 207 #[.pointer (some ⟨b, 0, none⟩), .pointer (some ⟨ab, 0, none⟩)] v fun e w' => e = .returned (.tuple #[]) ∧ w' = v.setCell ⟨b, j, none⟩ (.int .i64 0) := by
 have z0 : v.cell? ⟨ab, 0, none⟩ = some (.func (.func ga) #[] #[]) := blkC hab 0
 have zj : v.cell? ⟨b, j, none⟩ = some (.int .i64 s) := (blkC hb j).trans hj
 have hx := blkX hb
 have hf := blkF hb
 replace hb := Lh hb; replace hab := Lh hab
 go_enter Tryz.func207, Tryz.ntmps207
 go_wp2_with (fail)
 refine (ca _).mono ?_
 rintro e W' ⟨rfl, rfl⟩
 go_wp2_with (fail)
 go_end0
 exact ⟨rfl, rfl⟩
end Go.Proofs.YtgnjnpddehdmcaaGreatDoor
