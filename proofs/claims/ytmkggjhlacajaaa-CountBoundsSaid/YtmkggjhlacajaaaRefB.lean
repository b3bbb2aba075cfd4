/- The reference's Undo: contract; words for what the others return. -/
import Derived.Test.YtmkggjhlacajaaaRef
namespace Go.Proofs.Ytmkggjhlacajaaa
open Go.RowKit
set_option linter.unusedSimpArgs false
set_option linter.unusedVariables false
attribute [local go_sem] CR.val

theorem free_undo (v up dn lo hi d : Int) :
    (∃ k : Int, (k != 0) = true ∧ freeR v up dn lo hi d = .bad k ∧ undoR v up dn lo hi d = .bad k) ∨
    (∃ a b : Int, freeR v up dn lo hi d = .ok v a b lo hi ∧ undoR v up dn lo hi d = .ok (v - d) a b lo hi ∧ (-1152921504606846976 ≤ v ∧ v ≤ 1152921504606846976) ∧ (-1152921504606846976 ≤ d ∧ d ≤ 1152921504606846976)) := by
  unfold freeR undoR
  have h1 := ckOK_iff v up dn lo hi
  have h2 := inNum_iff d
  split
  · rename_i h
    rw [h1, h2] at h
    split
    · split
      · exact .inl ⟨9, by decide, rfl, rfl⟩
      · exact .inr ⟨_, _, rfl, rfl, by omega, by omega⟩
    · split
      · exact .inl ⟨9, by decide, rfl, rfl⟩
      · exact .inr ⟨_, _, rfl, rfl, by omega, by omega⟩
  · exact .inl ⟨2, by decide, rfl, rfl⟩

def roomU (v up dn lo hi : Int) : Int := if ckOK v up dn lo hi = true then min (hi - v - dn) (1152921504606846976 - up) else 0
def roomD (v up dn lo hi : Int) : Int := if ckOK v up dn lo hi = true then min (v - up - lo) (1152921504606846976 - dn) else 0
def leastL (v up dn lo hi : Int) : Int := if ckOK v up dn lo hi = true then v - up else 0
def leastH (v up dn lo hi : Int) : Int := if ckOK v up dn lo hi = true then v + dn else 0
def quietB (v up dn lo hi : Int) : Bool := ckOK v up dn lo hi && (up == 0) && (dn == 0)
def newR (v lo hi : Int) : CR := if ckOK v 0 0 lo hi = true then .ok v 0 0 lo hi else .bad 2
theorem ckE_or (v up dn lo hi : Int) : (ckE v up dn lo hi = 0 ∧ ckOK v up dn lo hi = true) ∨ (ckE v up dn lo hi = 2 ∧ ckOK v up dn lo hi = false) := by
  unfold ckE; split <;> simp_all
theorem ckE_t (v up dn lo hi : Int) : ((ckE v up dn lo hi != 0) = true) = (ckOK v up dn lo hi = false) := by
  unfold ckE; split <;> simp_all
theorem ckE_f (v up dn lo hi : Int) : ((ckE v up dn lo hi != 0) = false) = (ckOK v up dn lo hi = true) := by
  unfold ckE; split <;> simp_all
theorem int3 {a b c a' b' c' : Int} (h : a = a' ∧ b = b' ∧ c = c') : Ending.returned (.tuple #[.int .i64 a, .int .i64 b, .int .i64 c]) = .returned (.tuple #[.int .i64 a', .int .i64 b', .int .i64 c']) := by
  obtain ⟨rfl, rfl, rfl⟩ := h; rfl
theorem boolint {a a' : Bool} {b b' : Int} (h : a = a' ∧ b = b') : Ending.returned (.tuple #[.bool a, .int .i64 b]) = .returned (.tuple #[.bool a', .int .i64 b']) := by
  obtain ⟨rfl, rfl⟩ := h; rfl
/-- The arithmetic of a valid counter. -/
theorem ckOK_lin {v up dn lo hi : Int} (h : ckOK v up dn lo hi = true) : (-1152921504606846976 ≤ v ∧ v ≤ 1152921504606846976) ∧ (up ≤ 1152921504606846976 ∧ dn ≤ 1152921504606846976) ∧ (-1152921504606846976 ≤ lo ∧ hi ≤ 1152921504606846976) ∧ 0 ≤ up ∧ 0 ≤ dn ∧ lo ≤ v - up ∧ v + dn ≤ hi := (ckOK_iff _ _ _ _ _).1 h

set_option maxHeartbeats 2000000 in
theorem refUndo_any (v up dn lo hi d : Int) (w : World) :
    Calls Try.prog 30 #[.agg #[.int .i64 v, .int .i64 up, .int .i64 dn, .int .i64 lo, .int .i64 hi], .int .i64 d] w fun e w' => e = .returned (undoR v up dn lo hi d).val ∧ Below w.heap.size w w' := by
  rcases free_undo v up dn lo hi d with ⟨k, hk, h1, h2⟩ | ⟨a, b, h1, h2, h3, h4⟩
  · have hr := Lib.hid h1
    have hq := Lib.hid h2
    clear h1 h2
    go_enter Try.func30, Try.ntmps30
    go_wp2_with (first | (go_at_call 31; refine (refFree_any _ _ _ _ _ _ _).mono ?_; rintro e w1 ⟨he1, hb1⟩; rewrite [hr.out] at he1; unfold CR.bad CR.val at he1; (try dsimp only at he1); subst he1; have hB1 := belowThen hb1 (w := w) (by repeat (first | (with_reducible assumption) | (with_reducible exact Below.refl _ _) | (with_reducible refine below_drewN ?_ _) | (with_reducible refine Below.drew ?_) | ((with_reducible refine Below.alloc ?_ ?_ _); rotate_left; · (first | (with_reducible exact Nat.le_refl _) | (with_reducible assumption) | omega | (simp only [World.size_alloc, World.size_setCell, World.size_drew]; omega) | (simp; omega) | (simp; done))) | ((with_reducible refine Below.setCell ?_ ?_ _); rotate_left; · (first | (with_reducible exact Nat.le_refl _) | (with_reducible assumption) | omega | (simp only [World.size_alloc, World.size_setCell, World.size_drew]; omega) | (simp; omega) | (simp; done))))); have hs1 := hB1.size; have hz1 := hb1.size; (try simp only [World.size_alloc, World.size_setCell, World.size_drew] at hz1); refine withBlk (x := ?_) (hb1.block (w.heap.size) (by (first | (with_reducible exact Nat.le_refl _) | (with_reducible assumption) | omega | (simp only [World.size_alloc, World.size_setCell, World.size_drew]; omega) | (simp; omega) | (simp; done)))) ?_ ?_; rotate_left; (· (repeat (first | (with_reducible assumption) | ((with_reducible refine (hpOld _ ?_).trans ?_); · (first | (with_reducible exact Nat.le_refl _) | (with_reducible assumption) | omega | (simp only [World.size_alloc, World.size_setCell, World.size_drew]; omega) | (simp; omega) | (simp; done))) | ((with_reducible refine hpNewAt _ ?_); first | (with_reducible rfl) | (simp only [World.size_alloc, World.size_setCell, World.size_drew]; done)) | (with_reducible apply hpSet) | ((with_reducible refine (hpFar ?_).trans ?_); · (dsimp only; omega)) | (with_reducible refine hpDrewAt ?_) | (with_reducible refine hpDrewNAt _ ?_)))); intro b1_0; have c1_0 := blkC b1_0; have f1_0 := blkF b1_0; have x1_0 := blkX b1_0; refine withBlk (x := ?_) (hb1.block (w.heap.size + 1) (by (first | (with_reducible exact Nat.le_refl _) | (with_reducible assumption) | omega | (simp only [World.size_alloc, World.size_setCell, World.size_drew]; omega) | (simp; omega) | (simp; done)))) ?_ ?_; rotate_left; (· (repeat (first | (with_reducible assumption) | ((with_reducible refine (hpOld _ ?_).trans ?_); · (first | (with_reducible exact Nat.le_refl _) | (with_reducible assumption) | omega | (simp only [World.size_alloc, World.size_setCell, World.size_drew]; omega) | (simp; omega) | (simp; done))) | ((with_reducible refine hpNewAt _ ?_); first | (with_reducible rfl) | (simp only [World.size_alloc, World.size_setCell, World.size_drew]; done)) | (with_reducible apply hpSet) | ((with_reducible refine (hpFar ?_).trans ?_); · (dsimp only; omega)) | (with_reducible refine hpDrewAt ?_) | (with_reducible refine hpDrewNAt _ ?_)))); intro b1_1; have c1_1 := blkC b1_1; have f1_1 := blkF b1_1; have x1_1 := blkX b1_1; clear hb1))
    all_goals (try simp only [Exit.inBlock, Exit.then])
    refine bodyPost_ret (by simp [results, Try.results30, go_sem, *]; try with_reducible rfl) rfl ?_
    exact ⟨by rw [hq.out]; simp only [CR.bad, CR.ok, CR.val], (by repeat (first | (with_reducible assumption) | (with_reducible exact Below.refl _ _) | (with_reducible refine below_drewN ?_ _) | (with_reducible refine Below.drew ?_) | ((with_reducible refine Below.alloc ?_ ?_ _); rotate_left; · (first | (with_reducible exact Nat.le_refl _) | (with_reducible assumption) | omega | (simp only [World.size_alloc, World.size_setCell, World.size_drew]; omega) | (simp; omega) | (simp; done))) | ((with_reducible refine Below.setCell ?_ ?_ _); rotate_left; · (first | (with_reducible exact Nat.le_refl _) | (with_reducible assumption) | omega | (simp only [World.size_alloc, World.size_setCell, World.size_drew]; omega) | (simp; omega) | (simp; done)))))⟩
  · have hr := Lib.hid h1
    have hq := Lib.hid h2
    clear h1 h2
    go_enter Try.func30, Try.ntmps30
    go_wp2_with (first | (go_at_call 31; refine (refFree_any _ _ _ _ _ _ _).mono ?_; rintro e w1 ⟨he1, hb1⟩; rewrite [hr.out] at he1; unfold CR.ok CR.val at he1; (try dsimp only at he1); subst he1; have hB1 := belowThen hb1 (w := w) (by repeat (first | (with_reducible assumption) | (with_reducible exact Below.refl _ _) | (with_reducible refine below_drewN ?_ _) | (with_reducible refine Below.drew ?_) | ((with_reducible refine Below.alloc ?_ ?_ _); rotate_left; · (first | (with_reducible exact Nat.le_refl _) | (with_reducible assumption) | omega | (simp only [World.size_alloc, World.size_setCell, World.size_drew]; omega) | (simp; omega) | (simp; done))) | ((with_reducible refine Below.setCell ?_ ?_ _); rotate_left; · (first | (with_reducible exact Nat.le_refl _) | (with_reducible assumption) | omega | (simp only [World.size_alloc, World.size_setCell, World.size_drew]; omega) | (simp; omega) | (simp; done))))); have hs1 := hB1.size; have hz1 := hb1.size; (try simp only [World.size_alloc, World.size_setCell, World.size_drew] at hz1); refine withBlk (x := ?_) (hb1.block (w.heap.size) (by (first | (with_reducible exact Nat.le_refl _) | (with_reducible assumption) | omega | (simp only [World.size_alloc, World.size_setCell, World.size_drew]; omega) | (simp; omega) | (simp; done)))) ?_ ?_; rotate_left; (· (repeat (first | (with_reducible assumption) | ((with_reducible refine (hpOld _ ?_).trans ?_); · (first | (with_reducible exact Nat.le_refl _) | (with_reducible assumption) | omega | (simp only [World.size_alloc, World.size_setCell, World.size_drew]; omega) | (simp; omega) | (simp; done))) | ((with_reducible refine hpNewAt _ ?_); first | (with_reducible rfl) | (simp only [World.size_alloc, World.size_setCell, World.size_drew]; done)) | (with_reducible apply hpSet) | ((with_reducible refine (hpFar ?_).trans ?_); · (dsimp only; omega)) | (with_reducible refine hpDrewAt ?_) | (with_reducible refine hpDrewNAt _ ?_)))); intro b1_0; have c1_0 := blkC b1_0; have f1_0 := blkF b1_0; have x1_0 := blkX b1_0; refine withBlk (x := ?_) (hb1.block (w.heap.size + 1) (by (first | (with_reducible exact Nat.le_refl _) | (with_reducible assumption) | omega | (simp only [World.size_alloc, World.size_setCell, World.size_drew]; omega) | (simp; omega) | (simp; done)))) ?_ ?_; rotate_left; (· (repeat (first | (with_reducible assumption) | ((with_reducible refine (hpOld _ ?_).trans ?_); · (first | (with_reducible exact Nat.le_refl _) | (with_reducible assumption) | omega | (simp only [World.size_alloc, World.size_setCell, World.size_drew]; omega) | (simp; omega) | (simp; done))) | ((with_reducible refine hpNewAt _ ?_); first | (with_reducible rfl) | (simp only [World.size_alloc, World.size_setCell, World.size_drew]; done)) | (with_reducible apply hpSet) | ((with_reducible refine (hpFar ?_).trans ?_); · (dsimp only; omega)) | (with_reducible refine hpDrewAt ?_) | (with_reducible refine hpDrewNAt _ ?_)))); intro b1_1; have c1_1 := blkC b1_1; have f1_1 := blkF b1_1; have x1_1 := blkX b1_1; clear hb1))
    all_goals (try simp only [Exit.inBlock, Exit.then])
    refine bodyPost_ret (by simp [results, Try.results30, go_sem, *]; try with_reducible rfl) rfl ?_
    exact ⟨by rw [hq.out]; simp only [CR.bad, CR.ok, CR.val], (by repeat (first | (with_reducible assumption) | (with_reducible exact Below.refl _ _) | (with_reducible refine below_drewN ?_ _) | (with_reducible refine Below.drew ?_) | ((with_reducible refine Below.alloc ?_ ?_ _); rotate_left; · (first | (with_reducible exact Nat.le_refl _) | (with_reducible assumption) | omega | (simp only [World.size_alloc, World.size_setCell, World.size_drew]; omega) | (simp; omega) | (simp; done))) | ((with_reducible refine Below.setCell ?_ ?_ _); rotate_left; · (first | (with_reducible exact Nat.le_refl _) | (with_reducible assumption) | omega | (simp only [World.size_alloc, World.size_setCell, World.size_drew]; omega) | (simp; omega) | (simp; done)))))⟩
theorem refCheck_ok (v up dn lo hi : Int) (h : ckOK v up dn lo hi = true) (w : World) :
    Calls Try.prog 27 #[.agg #[.int .i64 v, .int .i64 up, .int .i64 dn, .int .i64 lo, .int .i64 hi]] w fun e w' => e = .returned (.int .i64 0) ∧ Below w.heap.size w w' :=
  (refCheck_any v up dn lo hi w).mono fun e w' hh => ⟨hh.1.trans (by rw [ckE, if_pos h]), hh.2⟩
theorem refCheck_bad (v up dn lo hi : Int) (h : ckOK v up dn lo hi = false) (w : World) :
    Calls Try.prog 27 #[.agg #[.int .i64 v, .int .i64 up, .int .i64 dn, .int .i64 lo, .int .i64 hi]] w fun e w' => e = .returned (.int .i64 2) ∧ Below w.heap.size w w' :=
  (refCheck_any v up dn lo hi w).mono fun e w' hh => ⟨hh.1.trans (by rw [ckE, if_neg (by simp [h])]), hh.2⟩
end Go.Proofs.Ytmkggjhlacajaaa
