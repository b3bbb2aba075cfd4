/- The shard: forward, read. -/
import Derived.Test.YtgnjnpddehdmcaaGreatDoorRowK
namespace Go.Proofs.YtgnjnpddehdmcaaGreatDoor
open Go.RowKit Go.Shelf
set_option linter.unusedSimpArgs false
set_option linter.unusedVariables false
set_option linter.unusedSectionVars false
set_option maxRecDepth 10000
attribute [-go_sem] Instr.loadAt
attribute [local go_sem] loadAt_other
set_option maxHeartbeats 8000000 in
theorem shForward_any {base : Nat} {p : Pl} {x : Sh} {v : World} (h : ShW base p x v) (c : Cd) (hk : c.key.size ≤ 140737488355328) (hd1 : -9223372036854775808 ≤ c.dl) (hd2 : c.dl ≤ 9223372036854775807) : Calls Tryz.prog 67 #[.pointer (some ⟨p.S, 0, none⟩), .agg (cdV c)] v fun e w' => e = .returned (.tuple #[.agg #[.int .i64 (stApE x.cnt c.key c.e.2.2 c.dl), .int .i64 (stApN x.cnt c.key c.e.2.2 c.dl), .string ⟨#[]⟩], .bool true]) ∧ ShTo base p p (cntX x c) v w' := by
 obtain ⟨W1, hW1⟩ : ∃ W1, W1 = ((v.alloc (.cells (cdV c) 40)).alloc (.cells #[.int .i64 0, .int .i64 0, .string ⟨#[]⟩] 52)) := ⟨_, rfl⟩
 have k1 : Below v.heap.size v W1 := by rw [hW1]; exact ((Below.refl _ v).alloc (Nat.le_refl _) _).alloc (by simp <;> omega) _
 have b0 : W1.heap[v.heap.size]? = some (.cells (cdV c) 40 (0, 0)) := by rw [hW1]; repeat (first | exact hpNewAt _ (by simp) | exact hpNew _ _ | refine (hpOld _ (by simp <;> omega)).trans ?_)
 have b1 : W1.heap[v.heap.size + 1]? = some (.cells #[.int .i64 0, .int .i64 0, .string ⟨#[]⟩] 52 (0, 0)) := by rw [hW1]; repeat (first | exact hpNewAt _ (by simp) | exact hpNew _ _ | refine (hpOld _ (by simp <;> omega)).trans ?_)
 have h1 := h.below k1
 have hg := shChange_any h1 c hk hd1 hd2
 have hld := cd_load b0
 rw [hW1] at hld
 generalize stApE x.cnt c.key c.e.2.2 c.dl = ee at *
 generalize stApN x.cnt c.key c.e.2.2 c.dl = nn at *
 generalize cntX x c = x' at *
 have hx0 := blkX b0
 replace h := Lh h; replace h1 := Lh h1; replace k1 := Lh k1; replace b1 := Lh b1; replace b0 := Lh b0
 go_enter Tryz.func67, Tryz.ntmps67
 go_wp2_with (fail)
 rw [← hW1]
 replace hW1 := Lh hW1
 refine hg.mono ?_
 rintro e V1 ⟨rfl, sh⟩
 have e1 := sh.blk b1.out (h.out.out (by omega))
 have s0 := blkC e1 0
 have s1 := blkC e1 1
 have s2 := blkC e1 2
 have sf := blkF e1; have sx := blkX e1
 simp only [List.getElem?_toArray, List.getElem?_cons_zero, List.getElem?_cons_succ] at s0 s1 s2
 replace e1 := Lh e1; replace sh := Lh sh
 clear hg hld
 go_wp2_with (fail)
 refine bodyPost_ret (by simp [results, Tryz.results67, go_sem, *]; try with_reducible rfl) rfl ?_
 exact ⟨rfl, ShTo.thenB (ShTo.set (ShTo.set (ShTo.set (sh.out.pre k1.out) (a := ⟨v.heap.size + 1, 0, none⟩) (by simp only; omega) (h.out.out (by simp only; omega)) _) (a := ⟨v.heap.size + 1, 1, none⟩) (by simp only; omega) (h.out.out (by simp only; omega)) _) (a := ⟨v.heap.size + 1, 2, none⟩) (by simp only; omega) (h.out.out (by simp only; omega)) _) ((Below.refl _ _).alloc (Nat.le_refl _) _)⟩
set_option maxHeartbeats 8000000 in
theorem shRead_any {base : Nat} {p : Pl} {x : Sh} {v : World} (h : ShW base p x v) (hn : x.own.length ≤ 1000000) (c : Cd) (hk : c.key.size ≤ 140737488355328) : Calls Tryz.prog 29 #[.pointer (some ⟨p.S, 0, none⟩), .agg (cdV c)] v fun e w' => e = .returned (.agg #[.int .i64 (getE x c.key), .int .i64 (getV x c.key).1, .string ⟨#[]⟩]) ∧ Below v.heap.size v w' := by
 obtain ⟨W1, hW1⟩ : ∃ W1, W1 = ((v.alloc (.cells (cdV c) 40)).alloc (.cells #[.int .i64 0, .int .i64 0, .string ⟨#[]⟩] 52)) := ⟨_, rfl⟩
 have k1 : Below v.heap.size v W1 := by rw [hW1]; exact ((Below.refl _ v).alloc (Nat.le_refl _) _).alloc (by simp <;> omega) _
 have b0 : W1.heap[v.heap.size]? = some (.cells (cdV c) 40 (0, 0)) := by rw [hW1]; repeat (first | exact hpNewAt _ (by simp) | exact hpNew _ _ | refine (hpOld _ (by simp <;> omega)).trans ?_)
 have b1 : W1.heap[v.heap.size + 1]? = some (.cells #[.int .i64 0, .int .i64 0, .string ⟨#[]⟩] 52 (0, 0)) := by rw [hW1]; repeat (first | exact hpNewAt _ (by simp) | exact hpNew _ _ | refine (hpOld _ (by simp <;> omega)).trans ?_)
 have h1 := h.below k1
 have hg := shGet_any h1 hn c.key hk
 have z6 : W1.cell? ⟨v.heap.size, 6, none⟩ = some (.string c.key) := blkC b0 6
 rw [hW1] at z6
 generalize getV x c.key = gv at *
 obtain ⟨y1, y2, y3, y4, y5⟩ := gv
 simp only [cnV] at hg ⊢
 generalize getE x c.key = ge at *
 have hx0 := blkX b0
 replace h := Lh h; replace h1 := Lh h1; replace k1 := Lh k1; replace b0 := Lh b0; replace b1 := Lh b1
 go_enter Tryz.func29, Tryz.ntmps29
 go_wp2_with (fail)
 rw [← hW1]
 replace hW1 := Lh hW1
 refine hg.mono ?_
 rintro e V1 ⟨rfl, c1⟩
 have k2 := Lh (k1.out.trans (c1.mono k1.out.size))
 have e1 := (c1.block _ (blkX b1.out)).trans b1.out
 have s0 := blkC e1 0
 have s1 := blkC e1 1
 have s2 := blkC e1 2
 have sf := blkF e1; have sx := blkX e1
 simp only [List.getElem?_toArray, List.getElem?_cons_zero, List.getElem?_cons_succ] at s0 s1 s2
 replace e1 := Lh e1
 clear hg z6 c1
 go_wp2_with (fail)
 refine bodyPost_ret (by simp [results, Tryz.results29, go_sem, *]; try with_reducible rfl) rfl ?_
 exact ⟨rfl, by repeat (first | exact k2.out | refine Below.setCell ?_ (by simp only; omega) _ | refine Below.alloc ?_ (by simp <;> omega) _)⟩
end Go.Proofs.YtgnjnpddehdmcaaGreatDoor
