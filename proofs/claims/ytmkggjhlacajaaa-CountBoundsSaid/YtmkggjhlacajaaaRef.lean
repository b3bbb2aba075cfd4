/- The reference's functions of counters: contracts. -/
import Derived.Test.YtmkggjhlacajaaaChk
import Derived.Deep.RegionHeld3
namespace Go.Proofs.Ytmkggjhlacajaaa
open Go.RowKit
set_option linter.unusedSimpArgs false
set_option linter.unusedVariables false
/-- A counter and an error: what Do, Undo, Free and Apply return. -/
structure CR where
  v : Int
  up : Int
  dn : Int
  lo : Int
  hi : Int
  e : Int
def CR.bad (e : Int) : CR := ⟨0, 0, 0, 0, 0, e⟩
def CR.ok (v up dn lo hi : Int) : CR := ⟨v, up, dn, lo, hi, 0⟩
def CR.val (r : CR) : Value := .tuple #[.agg #[.int .i64 r.v, .int .i64 r.up, .int .i64 r.dn, .int .i64 r.lo, .int .i64 r.hi], .int .i64 r.e]

def doR (v up dn lo hi d : Int) : CR :=
  if ckOK v up dn lo hi = true ∧ inNum d = true then
    if 0 ≤ d then (if hi < v + dn + d ∨ 1152921504606846976 < up + d then .bad 7 else .ok (v + d) (up + d) dn lo hi)
    else (if v - up + d < lo ∨ 1152921504606846976 < dn - d then .bad 7 else .ok (v + d) up (dn - d) lo hi)
  else .bad 2
def freeR (v up dn lo hi d : Int) : CR :=
  if ckOK v up dn lo hi = true ∧ inNum d = true then
    if 0 ≤ d then (if up < d then .bad 9 else .ok v (up - d) dn lo hi)
    else (if dn < -d then .bad 9 else .ok v up (dn + d) lo hi)
  else .bad 2
def undoR (v up dn lo hi d : Int) : CR :=
  if ckOK v up dn lo hi = true ∧ inNum d = true then
    if 0 ≤ d then (if up < d then .bad 9 else .ok (v - d) (up - d) dn lo hi)
    else (if dn < -d then .bad 9 else .ok (v - d) up (dn + d) lo hi)
  else .bad 2

def bothE (v up dn lo hi d : Int) : Int := if ckOK v up dn lo hi = true ∧ inNum d = true then 0 else 2

theorem ckE_0 (v up dn lo hi : Int) : (ckE v up dn lo hi = 0) = (ckOK v up dn lo hi = true) := by
  unfold ckE; split <;> simp_all
theorem ckOK_iff (v up dn lo hi : Int) : ckOK v up dn lo hi = true ↔ (-1152921504606846976 ≤ v ∧ v ≤ 1152921504606846976) ∧ (up ≤ 1152921504606846976 ∧ dn ≤ 1152921504606846976) ∧ (-1152921504606846976 ≤ lo ∧ hi ≤ 1152921504606846976) ∧ 0 ≤ up ∧ 0 ≤ dn ∧ lo ≤ v - up ∧ v + dn ≤ hi := by
  simp [ckOK, inNum]; omega

set_option maxHeartbeats 1000000 in
theorem refBoth_any (v up dn lo hi d : Int) (w : World) :
    Calls Try.prog 38 #[.agg #[.int .i64 v, .int .i64 up, .int .i64 dn, .int .i64 lo, .int .i64 hi], .int .i64 d] w fun e w' => e = .returned (.int .i64 (bothE v up dn lo hi d)) ∧ Below w.heap.size w w' := by
  go_enter Try.func38, Try.ntmps38
  go_wp2_with (first
    | (go_at_call 37; refine (within_any _ _).mono ?_; rintro e w' ⟨rfl, rfl⟩)
    | (go_at_call 27; refine (refCheck_any _ _ _ _ _ _).mono ?_; rintro e w1 ⟨he1, hb1⟩; subst he1; have hB1 := belowThen hb1 (w := w) (by repeat (first | (with_reducible assumption) | (with_reducible exact Below.refl _ _) | (with_reducible refine below_drewN ?_ _) | (with_reducible refine Below.drew ?_) | ((with_reducible refine Below.alloc ?_ ?_ _); rotate_left; · (first | (with_reducible exact Nat.le_refl _) | (with_reducible assumption) | omega | (simp only [World.size_alloc, World.size_setCell, World.size_drew]; omega) | (simp; omega) | (simp; done))) | ((with_reducible refine Below.setCell ?_ ?_ _); rotate_left; · (first | (with_reducible exact Nat.le_refl _) | (with_reducible assumption) | omega | (simp only [World.size_alloc, World.size_setCell, World.size_drew]; omega) | (simp; omega) | (simp; done))))); have hs1 := hB1.size; have hz1 := hb1.size; (try simp only [World.size_alloc, World.size_setCell, World.size_drew] at hz1); clear hb1))
  all_goals
    go_ret
    refine ⟨ret_int ?_, (by repeat (first | (with_reducible assumption) | (with_reducible exact Below.refl _ _) | (with_reducible refine below_drewN ?_ _) | (with_reducible refine Below.drew ?_) | ((with_reducible refine Below.alloc ?_ ?_ _); rotate_left; · (first | (with_reducible exact Nat.le_refl _) | (with_reducible assumption) | omega | (simp only [World.size_alloc, World.size_setCell, World.size_drew]; omega) | (simp; omega) | (simp; done))) | ((with_reducible refine Below.setCell ?_ ?_ _); rotate_left; · (first | (with_reducible exact Nat.le_refl _) | (with_reducible assumption) | omega | (simp only [World.size_alloc, World.size_setCell, World.size_drew]; omega) | (simp; omega) | (simp; done)))))⟩
    unfold bothE
    simp only [ckE_0, Bool.not_eq_true', Bool.not_eq_false', Bool.not_eq_true] at *
    simp [*]

theorem CR.val_eq {r : CR} {a b c d e f : Int} (h : a = r.v ∧ b = r.up ∧ c = r.dn ∧ d = r.lo ∧ e = r.hi ∧ f = r.e) :
    Ending.returned (.tuple #[.agg #[.int .i64 a, .int .i64 b, .int .i64 c, .int .i64 d, .int .i64 e], .int .i64 f]) = .returned r.val := by
  obtain ⟨rfl, rfl, rfl, rfl, rfl, rfl⟩ := h; rfl
theorem bothE_t (v up dn lo hi d : Int) : ((bothE v up dn lo hi d != 0) = true) = ¬ (ckOK v up dn lo hi = true ∧ inNum d = true) := by
  unfold bothE; split <;> simp_all
theorem bothE_f (v up dn lo hi d : Int) : ((bothE v up dn lo hi d != 0) = false) = (ckOK v up dn lo hi = true ∧ inNum d = true) := by
  unfold bothE; split <;> simp_all

theorem bothE_or (v up dn lo hi d : Int) : (bothE v up dn lo hi d = 0 ∧ ckOK v up dn lo hi = true ∧ inNum d = true) ∨ (bothE v up dn lo hi d = 2 ∧ ¬ (ckOK v up dn lo hi = true ∧ inNum d = true)) := by
  unfold bothE; split <;> simp_all

set_option maxHeartbeats 2000000 in
theorem refFree_any (v up dn lo hi d : Int) (w : World) :
    Calls Try.prog 31 #[.agg #[.int .i64 v, .int .i64 up, .int .i64 dn, .int .i64 lo, .int .i64 hi], .int .i64 d] w fun e w' => e = .returned (freeR v up dn lo hi d).val ∧ Below w.heap.size w w' := by
  go_enter Try.func31, Try.ntmps31
  go_wp2_with (first
    | (go_at_call 38; refine (refBoth_any _ _ _ _ _ _ _).mono ?_; rintro e w1 ⟨he1, hb1⟩; subst he1; have hB1 := belowThen hb1 (w := w) (by repeat (first | (with_reducible assumption) | (with_reducible exact Below.refl _ _) | (with_reducible refine below_drewN ?_ _) | (with_reducible refine Below.drew ?_) | ((with_reducible refine Below.alloc ?_ ?_ _); rotate_left; · (first | (with_reducible exact Nat.le_refl _) | (with_reducible assumption) | omega | (simp only [World.size_alloc, World.size_setCell, World.size_drew]; omega) | (simp; omega) | (simp; done))) | ((with_reducible refine Below.setCell ?_ ?_ _); rotate_left; · (first | (with_reducible exact Nat.le_refl _) | (with_reducible assumption) | omega | (simp only [World.size_alloc, World.size_setCell, World.size_drew]; omega) | (simp; omega) | (simp; done))))); have hs1 := hB1.size; have hz1 := hb1.size; (try simp only [World.size_alloc, World.size_setCell, World.size_drew] at hz1); refine withBlk (x := ?_) (hb1.block (w.heap.size) (by (first | (with_reducible exact Nat.le_refl _) | (with_reducible assumption) | omega | (simp only [World.size_alloc, World.size_setCell, World.size_drew]; omega) | (simp; omega) | (simp; done)))) ?_ ?_; rotate_left; (· (repeat (first | (with_reducible assumption) | ((with_reducible refine (hpOld _ ?_).trans ?_); · (first | (with_reducible exact Nat.le_refl _) | (with_reducible assumption) | omega | (simp only [World.size_alloc, World.size_setCell, World.size_drew]; omega) | (simp; omega) | (simp; done))) | ((with_reducible refine hpNewAt _ ?_); first | (with_reducible rfl) | (simp only [World.size_alloc, World.size_setCell, World.size_drew]; done)) | (with_reducible apply hpSet) | ((with_reducible refine (hpFar ?_).trans ?_); · (dsimp only; omega)) | (with_reducible refine hpDrewAt ?_) | (with_reducible refine hpDrewNAt _ ?_)))); intro b1_0; have c1_0 := blkC b1_0; have f1_0 := blkF b1_0; have x1_0 := blkX b1_0; refine withBlk (x := ?_) (hb1.block (w.heap.size + 1) (by (first | (with_reducible exact Nat.le_refl _) | (with_reducible assumption) | omega | (simp only [World.size_alloc, World.size_setCell, World.size_drew]; omega) | (simp; omega) | (simp; done)))) ?_ ?_; rotate_left; (· (repeat (first | (with_reducible assumption) | ((with_reducible refine (hpOld _ ?_).trans ?_); · (first | (with_reducible exact Nat.le_refl _) | (with_reducible assumption) | omega | (simp only [World.size_alloc, World.size_setCell, World.size_drew]; omega) | (simp; omega) | (simp; done))) | ((with_reducible refine hpNewAt _ ?_); first | (with_reducible rfl) | (simp only [World.size_alloc, World.size_setCell, World.size_drew]; done)) | (with_reducible apply hpSet) | ((with_reducible refine (hpFar ?_).trans ?_); · (dsimp only; omega)) | (with_reducible refine hpDrewAt ?_) | (with_reducible refine hpDrewNAt _ ?_)))); intro b1_1; have c1_1 := blkC b1_1; have f1_1 := blkF b1_1; have x1_1 := blkX b1_1; clear hb1))
  all_goals
    (try simp only [Exit.inBlock, Exit.then])
    refine bodyPost_ret (by simp [results, Try.results31, go_sem, *]; try with_reducible rfl) rfl ?_
    refine ⟨CR.val_eq ?_, (by repeat (first | (with_reducible assumption) | (with_reducible exact Below.refl _ _) | (with_reducible refine below_drewN ?_ _) | (with_reducible refine Below.drew ?_) | ((with_reducible refine Below.alloc ?_ ?_ _); rotate_left; · (first | (with_reducible exact Nat.le_refl _) | (with_reducible assumption) | omega | (simp only [World.size_alloc, World.size_setCell, World.size_drew]; omega) | (simp; omega) | (simp; done))) | ((with_reducible refine Below.setCell ?_ ?_ _); rotate_left; · (first | (with_reducible exact Nat.le_refl _) | (with_reducible assumption) | omega | (simp only [World.size_alloc, World.size_setCell, World.size_drew]; omega) | (simp; omega) | (simp; done)))))⟩
    have hbo := bothE_or v up dn lo hi d
    simp only [bothE_t, bothE_f, ckOK_iff, inNum_iff, wrap64] at *
    unfold freeR
    simp only [ckOK_iff, inNum_iff]
    (repeat' split) <;> first | (exfalso; omega) | (dsimp only [CR.bad, CR.ok]; exact ⟨by omega, by omega, by omega, by omega, by omega, by omega⟩)

set_option maxHeartbeats 2000000 in
theorem refDo_any (v up dn lo hi d : Int) (w : World) :
    Calls Try.prog 29 #[.agg #[.int .i64 v, .int .i64 up, .int .i64 dn, .int .i64 lo, .int .i64 hi], .int .i64 d] w fun e w' => e = .returned (doR v up dn lo hi d).val ∧ Below w.heap.size w w' := by
  go_enter Try.func29, Try.ntmps29
  go_wp2_with (first
    | (go_at_call 38; refine (refBoth_any _ _ _ _ _ _ _).mono ?_; rintro e w1 ⟨he1, hb1⟩; subst he1; have hB1 := belowThen hb1 (w := w) (by repeat (first | (with_reducible assumption) | (with_reducible exact Below.refl _ _) | (with_reducible refine below_drewN ?_ _) | (with_reducible refine Below.drew ?_) | ((with_reducible refine Below.alloc ?_ ?_ _); rotate_left; · (first | (with_reducible exact Nat.le_refl _) | (with_reducible assumption) | omega | (simp only [World.size_alloc, World.size_setCell, World.size_drew]; omega) | (simp; omega) | (simp; done))) | ((with_reducible refine Below.setCell ?_ ?_ _); rotate_left; · (first | (with_reducible exact Nat.le_refl _) | (with_reducible assumption) | omega | (simp only [World.size_alloc, World.size_setCell, World.size_drew]; omega) | (simp; omega) | (simp; done))))); have hs1 := hB1.size; have hz1 := hb1.size; (try simp only [World.size_alloc, World.size_setCell, World.size_drew] at hz1); refine withBlk (x := ?_) (hb1.block (w.heap.size) (by (first | (with_reducible exact Nat.le_refl _) | (with_reducible assumption) | omega | (simp only [World.size_alloc, World.size_setCell, World.size_drew]; omega) | (simp; omega) | (simp; done)))) ?_ ?_; rotate_left; (· (repeat (first | (with_reducible assumption) | ((with_reducible refine (hpOld _ ?_).trans ?_); · (first | (with_reducible exact Nat.le_refl _) | (with_reducible assumption) | omega | (simp only [World.size_alloc, World.size_setCell, World.size_drew]; omega) | (simp; omega) | (simp; done))) | ((with_reducible refine hpNewAt _ ?_); first | (with_reducible rfl) | (simp only [World.size_alloc, World.size_setCell, World.size_drew]; done)) | (with_reducible apply hpSet) | ((with_reducible refine (hpFar ?_).trans ?_); · (dsimp only; omega)) | (with_reducible refine hpDrewAt ?_) | (with_reducible refine hpDrewNAt _ ?_)))); intro b1_0; have c1_0 := blkC b1_0; have f1_0 := blkF b1_0; have x1_0 := blkX b1_0; refine withBlk (x := ?_) (hb1.block (w.heap.size + 1) (by (first | (with_reducible exact Nat.le_refl _) | (with_reducible assumption) | omega | (simp only [World.size_alloc, World.size_setCell, World.size_drew]; omega) | (simp; omega) | (simp; done)))) ?_ ?_; rotate_left; (· (repeat (first | (with_reducible assumption) | ((with_reducible refine (hpOld _ ?_).trans ?_); · (first | (with_reducible exact Nat.le_refl _) | (with_reducible assumption) | omega | (simp only [World.size_alloc, World.size_setCell, World.size_drew]; omega) | (simp; omega) | (simp; done))) | ((with_reducible refine hpNewAt _ ?_); first | (with_reducible rfl) | (simp only [World.size_alloc, World.size_setCell, World.size_drew]; done)) | (with_reducible apply hpSet) | ((with_reducible refine (hpFar ?_).trans ?_); · (dsimp only; omega)) | (with_reducible refine hpDrewAt ?_) | (with_reducible refine hpDrewNAt _ ?_)))); intro b1_1; have c1_1 := blkC b1_1; have f1_1 := blkF b1_1; have x1_1 := blkX b1_1; clear hb1))
  all_goals
    (try simp only [Exit.inBlock, Exit.then])
    refine bodyPost_ret (by simp [results, Try.results29, go_sem, *]; try with_reducible rfl) rfl ?_
    refine ⟨CR.val_eq ?_, (by repeat (first | (with_reducible assumption) | (with_reducible exact Below.refl _ _) | (with_reducible refine below_drewN ?_ _) | (with_reducible refine Below.drew ?_) | ((with_reducible refine Below.alloc ?_ ?_ _); rotate_left; · (first | (with_reducible exact Nat.le_refl _) | (with_reducible assumption) | omega | (simp only [World.size_alloc, World.size_setCell, World.size_drew]; omega) | (simp; omega) | (simp; done))) | ((with_reducible refine Below.setCell ?_ ?_ _); rotate_left; · (first | (with_reducible exact Nat.le_refl _) | (with_reducible assumption) | omega | (simp only [World.size_alloc, World.size_setCell, World.size_drew]; omega) | (simp; omega) | (simp; done)))))⟩
    have hbo := bothE_or v up dn lo hi d
    simp only [bothE_t, bothE_f, ckOK_iff, inNum_iff, wrap64] at *
    unfold doR
    simp only [ckOK_iff, inNum_iff]
    (repeat' split) <;> first | (exfalso; omega) | (dsimp only [CR.bad, CR.ok]; exact ⟨by omega, by omega, by omega, by omega, by omega, by omega⟩)
end Go.Proofs.Ytmkggjhlacajaaa
