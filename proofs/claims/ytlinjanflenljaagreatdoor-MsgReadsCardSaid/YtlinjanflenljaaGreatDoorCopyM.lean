/- Copy: a message with a list of its own. -/
import Derived.Test.YtlinjanflenljaaGreatDoorOpenBy
import Derived.Test.YtlinjanflenljaaGreatDoorDec
namespace Go.Proofs.YtlinjanflenljaaGreatDoor
open Go.RowKit
set_option linter.unusedSimpArgs false
set_option linter.unusedVariables false
set_option linter.unusedSectionVars false
set_option maxRecDepth 10000
attribute [local go_sem ↓] hideAppend
theorem eql_nilE (W : World) (A : Option Addr) (n c : Nat) : (binOp .eql 26 (.slice A n c) (.slice none 0 0)).run Tryz.prog W = .ok (.bool A.isNone) W := by
  have h : ∀ d : Nat, (Op.equalIn (d + 1) 26 (.slice A n c) (.slice none 0 0)).run Tryz.prog W = .ok A.isNone W := fun d => by
    cases A <;> simp [Op.equalIn, run_underlying Tryz.underlying26]
  simp only [binOp]
  simp [Op.equal, Op.maxDepth, h 9999]
theorem row0E (W : World) : (W.alloc (.cells #[] 45)).ownsRow W.heap.size 45 4 (.slice (some ⟨W.heap.size, 0, none⟩) 0 0) 0 (flat encEnt []) :=
  ⟨rfl, .inr ⟨W.heap.size, 0, #[], rfl, Nat.le_refl _, heap_alloc_new W _, by simp, by unfold maxLen; omega, by simp, by simp [flat]⟩⟩
set_option maxHeartbeats 4000000 in
theorem cloneE_any {A : Option Addr} {n c : Nat} {l : List Ent} {w : World} (h : ES w A n l) (hn : n ≤ 3518437208883) :
    Calls Tryz.prog 52 #[.slice A n c] w fun e w' => ∃ A' c', e = .returned (.slice A' n c') ∧ w'.ownsRow w.heap.size 45 4 (.slice A' n c') n (flat encEnt l) ∧ Below w.heap.size w w' := by
  have hl := h.1
  cases A with
  | none =>
    have h0 : n = 0 := by
      rcases Nat.eq_zero_or_pos n with q | q
      · exact q
      · obtain ⟨b, o, e, _⟩ := h.2 q
        cases e
    subst h0
    have hl0 : l = [] := List.length_eq_zero_iff.1 hl
    subst hl0
    replace h := Lib.hid h
    have hq := fun W => eql_nilE W none 0 c
    go_enter Tryz.func52, Tryz.ntmps52
    go_wp2_with (fail)
    go_ret
    exact ⟨none, 0, rfl, ⟨rfl, .inl ⟨rfl, rfl⟩⟩, Below.refl _ _⟩
  | some a =>
    have hq := fun W => eql_nilE W (some a) n c
    have kb := (Below.refl w.heap.size w).alloc (Nat.le_refl _) (.cells #[] 45)
    obtain ⟨A', c', w1, hrun, hcap, hown1, hgr, hat⟩ := append_sl elemEnt encEnt_len encEnt_one (ty := 26) (d := c) (row0E w) (by simp) (SL.keep h kb) (by omega) (by omega)
    simp only [Nat.zero_add, List.nil_append] at hrun hown1
    have hbel : Below w.heap.size w w1 := kb.grown hgr kb.size (fun k e => by have e : w.heap.size = k := Option.some.inj e; omega)
    replace hown1 := Lib.hid hown1; replace hbel := Lib.hid hbel; replace hgr := Lib.hid hgr; replace hat := Lib.hid hat; replace h := Lib.hid h; replace kb := Lib.hid kb
    go_enter Tryz.func52, Tryz.ntmps52
    go_wp2_with (fail)
    go_ret
    exact ⟨A', c', rfl, hown1.out, hbel.out⟩
set_option maxHeartbeats 8000000 in
theorem copy_any (m : Mg) (A : Option Addr) (c : Nat) (w : World) (hI : IsM w m A c) : Calls Tryz.prog 27 #[.agg #[.int .i64 m.k, .int .i64 m.fr, .int .i64 m.tt, .int .i64 m.ro, .int .i64 m.no, .int .i64 m.sl, .int .i64 m.nu, .string (sOf m.v), .slice A m.l.length c]] w fun e w' => ∃ A' c', e = .returned (.agg #[.int .i64 m.k, .int .i64 m.fr, .int .i64 m.tt, .int .i64 m.ro, .int .i64 m.no, .int .i64 m.sl, .int .i64 m.nu, .string (sOf m.v), .slice A' m.l.length c']) ∧ w'.ownsRow w.heap.size 45 4 (.slice A' m.l.length c') m.l.length (flat encEnt m.l) ∧ Below w.heap.size w w' := by
  obtain ⟨U, hU⟩ : ∃ U, U = (w.alloc (.cells #[.int .i64 m.k, .int .i64 m.fr, .int .i64 m.tt, .int .i64 m.ro, .int .i64 m.no, .int .i64 m.sl, .int .i64 m.nu, .string (sOf m.v), .slice A m.l.length c] 28)).alloc (.cells #[.int .i64 0, .int .i64 0, .int .i64 0, .int .i64 0, .int .i64 0, .int .i64 0, .int .i64 0, .string ⟨#[]⟩, .slice none 0 0] 28) := ⟨_, rfl⟩
  have kb : Below w.heap.size w U := by rw [hU]; exact ((Below.refl _ w).alloc (Nat.le_refl _) _).alloc (by simp) _
  have hz : U.heap[w.heap.size]? = some (.cells #[.int .i64 m.k, .int .i64 m.fr, .int .i64 m.tt, .int .i64 m.ro, .int .i64 m.no, .int .i64 m.sl, .int .i64 m.nu, .string (sOf m.v), .slice A m.l.length c] 28 (0, 0)) := by rw [hU]; exact (hpOld _ (by simp)).trans (hpNew w _)
  have hr : U.heap[w.heap.size + 1]? = some (.cells #[.int .i64 0, .int .i64 0, .int .i64 0, .int .i64 0, .int .i64 0, .int .i64 0, .int .i64 0, .string ⟨#[]⟩, .slice none 0 0] 28 (0, 0)) := by rw [hU]; exact hpNewAt _ (by simp)
  have hc := cloneE_any (c := c) (SL.keep hI.es kb) hI.n
  replace kb := Lib.hid kb; replace hz := Lib.hid hz; replace hr := Lib.hid hr; replace hI := Lib.hid hI
  go_enter Tryz.func27, Tryz.ntmps27
  go_wp2_with (fail)
  rw [← hU]
  clear hU
  refine hc.mono ?_
  rintro e w1 ⟨A1, c1, rfl, ho, b1⟩
  have hz1 := (b1.block _ (blkX hz.out)).trans hz.out
  have hr1 := (b1.block _ (blkX hr.out)).trans hr.out
  have kb1 := Lib.hid (kb.out.trans (b1.mono kb.out.size))
  have ho' := ho.mono (base' := w.heap.size) kb.out.size
  have hne0 := own_ty ho hz1 (show 28 ≠ 45 from by decide)
  have hne1 := own_ty ho hr1 (show 28 ≠ 45 from by decide)
  have z0 : w1.cell? ⟨w.heap.size, 0, none⟩ = some (.int .i64 m.k) := blkC hz1 0
  have z1 : w1.cell? ⟨w.heap.size, 1, none⟩ = some (.int .i64 m.fr) := blkC hz1 1
  have z2 : w1.cell? ⟨w.heap.size, 2, none⟩ = some (.int .i64 m.tt) := blkC hz1 2
  have z3 : w1.cell? ⟨w.heap.size, 3, none⟩ = some (.int .i64 m.ro) := blkC hz1 3
  have z4 : w1.cell? ⟨w.heap.size, 4, none⟩ = some (.int .i64 m.no) := blkC hz1 4
  have z5 : w1.cell? ⟨w.heap.size, 5, none⟩ = some (.int .i64 m.sl) := blkC hz1 5
  have z6 : w1.cell? ⟨w.heap.size, 6, none⟩ = some (.int .i64 m.nu) := blkC hz1 6
  have z7 : w1.cell? ⟨w.heap.size, 7, none⟩ = some (.string (sOf m.v)) := blkC hz1 7
  have z8 : w1.cell? ⟨w.heap.size, 8, none⟩ = some (.slice A m.l.length c) := blkC hz1 8
  have r0 : w1.cell? ⟨w.heap.size + 1, 0, none⟩ = some (.int .i64 0) := blkC hr1 0
  have r1 : w1.cell? ⟨w.heap.size + 1, 1, none⟩ = some (.int .i64 0) := blkC hr1 1
  have r2 : w1.cell? ⟨w.heap.size + 1, 2, none⟩ = some (.int .i64 0) := blkC hr1 2
  have r3 : w1.cell? ⟨w.heap.size + 1, 3, none⟩ = some (.int .i64 0) := blkC hr1 3
  have r4 : w1.cell? ⟨w.heap.size + 1, 4, none⟩ = some (.int .i64 0) := blkC hr1 4
  have r5 : w1.cell? ⟨w.heap.size + 1, 5, none⟩ = some (.int .i64 0) := blkC hr1 5
  have r6 : w1.cell? ⟨w.heap.size + 1, 6, none⟩ = some (.int .i64 0) := blkC hr1 6
  have r7 : w1.cell? ⟨w.heap.size + 1, 7, none⟩ = some (.string ⟨#[]⟩) := blkC hr1 7
  have r8 : w1.cell? ⟨w.heap.size + 1, 8, none⟩ = some (.slice none 0 0) := blkC hr1 8
  have fz := blkF hz1; have fr := blkF hr1
  have lz := blkX hz1; have lr := blkX hr1
  replace ho' := Lib.hid ho'; replace hz1 := Lib.hid hz1; replace hr1 := Lib.hid hr1; replace hne0 := Lib.hid hne0; replace hne1 := Lib.hid hne1
  clear b1 ho
  go_wp2_with (fail)
  refine bodyPost_ret (by simp [results, Tryz.results27, go_sem, *]; try with_reducible rfl) rfl ?_
  refine ⟨A1, c1, rfl, ?_, ?_⟩
  · iterate 9 (refine own_set ?_ hne1.out _ _)
    refine own_set ?_ hne0.out _ _
    exact ho'.out
  · iterate 9 (refine Below.setCell ?_ (by simp) _)
    refine Below.setCell ?_ (by simp) _
    exact kb1.out
end Go.Proofs.YtlinjanflenljaaGreatDoor
