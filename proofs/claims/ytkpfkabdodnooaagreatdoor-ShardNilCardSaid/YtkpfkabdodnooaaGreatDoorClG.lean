/- slices.Clone at ranges; Ranges. -/
import Derived.Test.YtkpfkabdodnooaaGreatDoorNilN
import Derived.Test.YtkpfkabdodnooaaGreatDoorShE
import Derived.Carry
import Derived.Test.YtkpfkabdodnooaaGreatDoorEf
import Derived.Test.YtkpfkabdodnooaaGreatDoorCChk
import Derived.Test.YtkpfkabdodnooaaGreatDoorHas
namespace Go.Proofs.YtkpfkabdodnooaaGreatDoor
open Go.RowKit Go.Shelf
set_option linter.unusedSimpArgs false
set_option linter.unusedVariables false
set_option linter.unusedSectionVars false
set_option maxRecDepth 10000
def encS2 (x : ByteArray × Int) : List Value := [.string x.1, .int .i64 x.2]
def IsB (e : Ending) : Prop := ∃ b, e = .returned (.bool b)
abbrev SS2 (w : World) (A : Option Addr) (n : Nat) (l : List (ByteArray × Int)) : Prop := SL encS2 2 w A n l
set_option maxHeartbeats 8000000 in
theorem short_any (nm : ByteArray) (r dl : Int) (A : Option Addr) (n c : Nat) (l : List (ByteArray × Int)) (w : World) (hs : SS2 w A n l) : Calls Tryz.prog 17 #[.agg #[.string nm, .int .i64 r, .int .i64 dl, .slice A n c]] w fun e w' => IsB e ∧ Below w.heap.size w w' := by
  obtain ⟨W1, hW1⟩ : ∃ W, W = w.alloc (.cells #[.string nm, .int .i64 r, .int .i64 dl, .slice A n c] 28) := ⟨_, rfl⟩
  have k1 : Below w.heap.size w W1 := by rw [hW1]; exact (Below.refl _ w).alloc (Nat.le_refl _) _
  have b1 : W1.heap[w.heap.size]? = some (.cells #[.string nm, .int .i64 r, .int .i64 dl, .slice A n c] 28 (0, 0)) := by rw [hW1]; exact hpNew _ _
  have hs1 := SL.keep hs k1
  replace k1 := Lib.hid k1; replace b1 := Lib.hid b1; replace hs1 := Lib.hid hs1
  clear hs
  by_cases h20 : 20 < n
  · have q : ((20 : Int) < (n : Int)) = True := eq_true (by omega)
    replace hW1 := Lib.hid hW1
    go_enter Tryz.func17, Tryz.ntmps17
    go_wp2_with (fail)
    all_goals (go_ret; exact ⟨⟨_, rfl⟩, by have := k1.out; rw [hW1.out] at this; exact this⟩)
  · have q : ((20 : Int) < (n : Int)) = False := eq_false (by omega)
    by_cases h40 : 40 < nm.size
    · have q2 : ((40 : Int) < (nm.size : Int)) = True := eq_true (by omega)
      replace hW1 := Lib.hid hW1; replace h20 := Lib.hid h20; replace h40 := Lib.hid h40
      go_enter Tryz.func17, Tryz.ntmps17
      go_wp2_with (fail)
      all_goals (go_ret; exact ⟨⟨_, rfl⟩, by have := k1.out; rw [hW1.out] at this; exact this⟩)
    · have q2 : ((40 : Int) < (nm.size : Int)) = False := eq_false (by omega)
      replace h40 := Lib.hid h40
      replace hW1 := Lib.hid hW1
      go_enter Tryz.func17, Tryz.ntmps17
      go_wp2_with (fail)
      rw [← hW1.out]
      go_loopw [3] (fun i wr => wr = W1 ∧ ∃ j : Nat, j ≤ n ∧ i = .int .i64 j) (fun i _ => n - (intOf i).toNat)
      case atStart => exact ⟨by first | rfl | trivial | exact hW1.out.symm, 0, by omega, rfl⟩
      case round =>
        clear q q2
        revert wr
        intro X hrel
        obtain ⟨hX, j, hj, rfl⟩ := hrel
        obtain rfl : X = W1 := hX
        have c3 : X.cell? ⟨w.heap.size, 3, none⟩ = some (.slice A n c) := blkC b1.out 3
        have cx := blkX b1.out
        by_cases hlt : j < n
        · obtain ⟨b, o, y, rfl, hbl, hx, hc⟩ := SL.at_ hs1.out hlt
          have s0 := hc 0 _ rfl
          rw [Nat.add_zero] at s0
          clear hc hx
          obtain ⟨yk, yd⟩ := y
          simp only at s0
          have j0 : (0 : Int) ≤ j := by omega
          have j1 : (j : Int) < (n : Int) := by omega
          by_cases hk : 40 < yk.size
          · have q3 : ((40 : Int) < (yk.size : Int)) = True := eq_true (by omega)
            replace hk := Lib.hid hk
            go_wp2_with (fail)
            go_ret
            exact ⟨⟨_, rfl⟩, k1.out⟩
          · have q3 : ((40 : Int) < (yk.size : Int)) = False := eq_false (by omega)
            replace hk := Lib.hid hk
            go_wp2_with (fail)
            exact ⟨⟨by trivial, j + 1, by omega, by go_num⟩, by simp [intOf]; omega⟩
        · obtain rfl : j = n := by omega
          go_wp2_with (fail)
          go_ret
          exact ⟨⟨_, rfl⟩, k1.out⟩
set_option maxHeartbeats 16000000 in
theorem small_any (c : Cd) (l : List (ByteArray × Int)) (w : World) (hs : SS2 w c.dA c.dl' l) : Calls Tryz.prog 4 #[.agg (cdV c)] w fun e w' => IsB e ∧ Below w.heap.size w w' := by
  obtain ⟨W1, hW1⟩ : ∃ W, W = w.alloc (.cells (cdV c) 33) := ⟨_, rfl⟩
  have k1 : Below w.heap.size w W1 := by rw [hW1]; exact (Below.refl _ w).alloc (Nat.le_refl _) _
  have b1 : W1.heap[w.heap.size]? = some (.cells (cdV c) 33 (0, 0)) := by rw [hW1]; exact hpNew _ _
  have hsh := short_any c.dn c.dr c.dd c.dA c.dl' c.dc l W1 (SL.keep hs k1)
  have t6 : W1.cell? ⟨w.heap.size, 6, none⟩ = some (.string c.key) := blkC b1 6
  have t9 : W1.cell? ⟨w.heap.size, 9, none⟩ = some (.string c.r.1) := blkC b1 9
  have t10 : W1.cell? ⟨w.heap.size, 10, none⟩ = some (.string c.r.2) := blkC b1 10
  have t12 : W1.cell? ⟨w.heap.size, 12, none⟩ = some (.string c.dn) := blkC b1 12
  have t13 : W1.cell? ⟨w.heap.size, 13, none⟩ = some (.int .i64 c.dr) := blkC b1 13
  have t14 : W1.cell? ⟨w.heap.size, 14, none⟩ = some (.int .i64 c.dd) := blkC b1 14
  have t15 : W1.cell? ⟨w.heap.size, 15, none⟩ = some (.slice c.dA c.dl' c.dc) := blkC b1 15
  have t23 : W1.cell? ⟨w.heap.size, 23, none⟩ = some (.string c.dat) := blkC b1 23
  have tx := blkX b1
  rw [hW1] at t6 t9 t10 t12 t13 t14 t15 t23 tx
  replace hW1 := Lib.hid hW1; replace k1 := Lib.hid k1
  clear hs b1
  go_enter Tryz.func4, Tryz.ntmps4
  go_wp2_with (fail)
  all_goals first | (go_ret; exact ⟨⟨_, rfl⟩, by have q := k1.out; rw [hW1.out] at q; exact q⟩) | (rw [← hW1.out]; refine hsh.mono ?_; rintro e W2 ⟨⟨b, rfl⟩, b2⟩; have k2 := Lib.hid (k1.out.trans (b2.mono k1.out.size)); clear b2; go_wp2_with (fail); go_ret; exact ⟨⟨_, rfl⟩, k2.out⟩)
end Go.Proofs.YtkpfkabdodnooaaGreatDoor

namespace Go.Proofs.YtkpfkabdodnooaaGreatDoor
open Go.RowKit Go.Shelf
set_option linter.unusedSimpArgs false
set_option linter.unusedVariables false
set_option linter.unusedSectionVars false
set_option maxRecDepth 10000
def meetsB (x : Sh) (r : Rg) : Bool := x.own.any fun g => meetB g r
set_option maxHeartbeats 4000000 in
theorem shMeets_any {base : Nat} {p : Pl} {x : Sh} {w : World} (h : ShW base p x w) (hn : x.own.length ≤ 1000000) (r1 r2 : ByteArray) (hr : szG (r1, r2)) : Calls Tryz.prog 24 #[.pointer (some ⟨p.S, 0, none⟩), .agg #[.string r1, .string r2]] w fun e w' => e = .returned (.bool (meetsB x (r1, r2))) ∧ Below w.heap.size w w' := by
  obtain ⟨W1, hW1⟩ : ∃ W1, W1 = (w.alloc (.cells #[.string r1, .string r2] 25)) := ⟨_, rfl⟩
  have k1 : Below w.heap.size w W1 := by rw [hW1]; exact (Below.refl _ w).alloc (Nat.le_refl _) _
  have b0 : W1.heap[w.heap.size]? = some (.cells #[.string r1, .string r2] 25 (0, 0)) := by rw [hW1]; repeat (first | exact hpNewAt _ (by simp) | exact hpNew _ _ | refine (hpOld _ (by simp <;> omega)).trans ?_)
  have h1 := h.below k1
  have c2 : w.cell? ⟨p.S, 2, none⟩ = some (.slice p.A x.own.length p.c) := blkC h.blk 2
  have hlt := h.lt
  have hc := contG_any (g := 54) (lb := #[.pointer (some ⟨w.heap.size, 0, none⟩)]) (c := p.c) (p := fun g => meetB g (r1, r2)) (enters_of Tryz.func54 (by kernel_rfl) rfl) h1.gs hn (fun y hy W hb => meets1_any y.1 y.2 r1 r2 w.heap.size W (okG_sz (h.ok y hy)) hr ((hb.block _ (blkX b0)).trans b0))
  rw [show x.own.any (fun g => meetB g (r1, r2)) = meetsB x (r1, r2) from rfl] at hc
  generalize meetsB x (r1, r2) = r at *
  replace h := Lib.hid h; replace h1 := Lib.hid h1; replace k1 := Lib.hid k1; replace b0 := Lib.hid b0
  go_enter Tryz.func24, Tryz.ntmps24
  go_wp2_with (fail)
  rw [← hW1]
  replace hW1 := Lib.hid hW1
  refine hc.mono ?_
  rintro e w3 ⟨rfl, b3⟩
  have k3 := Lib.hid (k1.out.trans (b3.mono k1.out.size))
  clear b3 hc
  go_wp2_with (fail)
  go_ret
  exact ⟨rfl, k3.out⟩
end Go.Proofs.YtkpfkabdodnooaaGreatDoor

namespace Go.Proofs.YtkpfkabdodnooaaGreatDoor
open Go.RowKit Go.Shelf
set_option linter.unusedSimpArgs false
set_option linter.unusedVariables false
set_option linter.unusedSectionVars false
set_option maxRecDepth 10000
section
variable {base : Nat} {p p' : Pl} {x x' : Sh} {w w0 w' : World}
theorem ShW.out (h : ShW base p x w) {k : Nat} (hk : w.heap.size ≤ k) : ¬ p.foot k := fun q => by have := (h.foot_lt k q).2; omega
theorem ShTo.nfoot (h : ShTo base p p' x' w w') (h0 : ShW base p x w0) {k : Nat} (hk : w0.heap.size ≤ k) (hl : k < w.heap.size) : ¬ p'.foot k := fun q => (h.new k q).elim (h0.out hk) (by omega)
theorem ShTo.set (h : ShTo base p p' x' w w') {a : Addr} (ha : w.heap.size ≤ a.block) (hn : ¬ p'.foot a.block) (v : Value) : ShTo base p p' x' w (w'.setCell a v) := by
  have hk : ∀ k, k ≠ a.block → (w'.setCell a v).heap[k]? = w'.heap[k]? := fun k hk => hpFar hk
  refine ⟨h.sh.keep (by simp) fun k hf => hk k fun e => hn (e ▸ hf), ⟨?_, ?_, ?_, by rw [World.size_setCell]; exact h.chg.size, fun k hl hf => (hk k (by omega)).trans (h.chg.block k hl hf)⟩, h.new, h.same⟩
  · rw [← h.chg.os]; rfl
  · rw [← h.chg.tape]; rfl
  · rw [← h.chg.output]; rfl
end
end Go.Proofs.YtkpfkabdodnooaaGreatDoor

namespace Go.Proofs.YtkpfkabdodnooaaGreatDoor
open Go.RowKit Go.Shelf
set_option linter.unusedSimpArgs false
set_option linter.unusedVariables false
set_option linter.unusedSectionVars false
set_option maxRecDepth 10000
def cntX (x : Sh) (c : Cd) : Sh := { x with cnt := stApL x.cnt c.key c.e.2.2 c.dl }
set_option maxHeartbeats 8000000 in
theorem shChange_any {base : Nat} {p : Pl} {x : Sh} {v : World} (h : ShW base p x v) (c : Cd) (hk : c.key.size ≤ 140737488355328) (hd1 : -9223372036854775808 ≤ c.dl) (hd2 : c.dl ≤ 9223372036854775807) : Calls Tryz.prog 104 #[.pointer (some ⟨p.S, 0, none⟩), .agg (cdV c)] v fun e w' => e = .returned (.tuple #[.agg #[.int .i64 (stApE x.cnt c.key c.e.2.2 c.dl), .int .i64 (stApN x.cnt c.key c.e.2.2 c.dl), .string ⟨#[]⟩], .bool (stApE x.cnt c.key c.e.2.2 c.dl == 0)]) ∧ ShTo base p p (cntX x c) v w' := by
  obtain ⟨W1, hW1⟩ : ∃ W1, W1 = ((v.alloc (.cells (cdV c) 33)).alloc (.cells #[.int .i64 0, .int .i64 0, .string ⟨#[]⟩] 50)) := ⟨_, rfl⟩
  have k1 : Below v.heap.size v W1 := by rw [hW1]; exact ((Below.refl _ v).alloc (Nat.le_refl _) _).alloc (by simp <;> omega) _
  have b0 : W1.heap[v.heap.size]? = some (.cells (cdV c) 33 (0, 0)) := by rw [hW1]; repeat (first | exact hpNewAt _ (by simp) | exact hpNew _ _ | refine (hpOld _ (by simp <;> omega)).trans ?_)
  have b1 : W1.heap[v.heap.size + 1]? = some (.cells #[.int .i64 0, .int .i64 0, .string ⟨#[]⟩] 50 (0, 0)) := by rw [hW1]; repeat (first | exact hpNewAt _ (by simp) | exact hpNew _ _ | refine (hpOld _ (by simp <;> omega)).trans ?_)
  have h1 := h.below k1
  obtain ⟨W2, hW2⟩ : ∃ W, W = W1.drew := ⟨_, rfl⟩
  have bd : Below W1.heap.size W1 W2 := by rw [hW2]; exact (Below.refl _ _).drew
  have k1D := k1.trans (bd.mono k1.size)
  have h1D := h1.below bd
  have b0D := (bd.block _ (blkX b0)).trans b0
  have b1D := (bd.block _ (blkX b1)).trans b1
  clear bd
  have hg := stApply_any h1D.st c.key hk c.e.2.2 c.dl hd1 hd2
  obtain ⟨x', hx'⟩ : ∃ z, z = cntX x c := ⟨_, rfl⟩
  rw [← hx']
  have hto0 : ∀ W', StTo base p.St p.M (stApL x.cnt c.key c.e.2.2 c.dl) W2 W' → ShTo base p p x' W2 W' := fun W' q => by rw [hx']; exact h1D.setCnt q
  have hsv : shV p x' = shV p x := by rw [hx']; rfl
  generalize stApE x.cnt c.key c.e.2.2 c.dl = ee at *
  generalize stApN x.cnt c.key c.e.2.2 c.dl = nn at *
  generalize stApL x.cnt c.key c.e.2.2 c.dl = ll at *
  clear hx'
  replace h := Lib.hid h; replace h1 := Lib.hid h1; replace k1 := Lib.hid k1; replace b0 := Lib.hid b0; replace b1 := Lib.hid b1; replace k1D := Lib.hid k1D; replace h1D := Lib.hid h1D; replace b0D := Lib.hid b0D; replace b1D := Lib.hid b1D; replace hto0 := Lib.hid hto0; replace hsv := Lib.hid hsv
  have hW1u := hW1
  unfold cdV at hW1u
  unfold cdV
  go_enter Tryz.func104, Tryz.ntmps104
  go_wp2_with (fail)
  rw [← hW1u]
  replace hW1 := Lib.hid hW1; replace hW1u := Lib.hid hW1u; replace hW2 := Lib.hid hW2
  refine wp_region_held_drew (S := (fun W' : World => W'.heap[p.S]? = some (.cells (shV p x) 43 (0, 0)) ∧ W'.heap[v.heap.size]? = some (.cells (cdV c) 33 (0, 0)))) (by kernel_rfl) ?_ (fun hH => ?_)
  · rw [← hW2.out]
    exact ⟨h1D.out.blk, b0D.out⟩
  refine wpAnyH_take (i := 0) (v := ?_) rfl (by kernel_rfl) (by kernel_rfl) (by kernel_rfl) (fun _ _ _ h => h) (Or.inl ⟨by rfl, by intro w hSw; go_simp; first | done | with_reducible rfl⟩) hH ?_
  simp only [List.getElem_toArray, List.getElem_cons_succ, List.getElem_cons_zero, Act.put, List.setIfInBounds_toArray, List.set_cons_zero, List.set_cons_succ]
  refine wpAnyH_take (i := 1) (v := ?_) rfl (by kernel_rfl) (by kernel_rfl) (by kernel_rfl) (fun _ _ _ h => h) (Or.inl ⟨by rfl, by intro w hSw; go_simp; first | done | with_reducible rfl⟩) hH ?_
  simp only [List.getElem_toArray, List.getElem_cons_succ, List.getElem_cons_zero, Act.put, List.setIfInBounds_toArray, List.set_cons_zero, List.set_cons_succ]
  refine wpAnyH_take (i := 2) (v := ?_) rfl (by kernel_rfl) (by kernel_rfl) (by kernel_rfl) (fun _ _ _ h => h) (Or.inl ⟨by rfl, by intro w hSw; go_simp; first | done | with_reducible rfl⟩) hH ?_
  simp only [List.getElem_toArray, List.getElem_cons_succ, List.getElem_cons_zero, Act.put, List.setIfInBounds_toArray, List.set_cons_zero, List.set_cons_succ]
  refine wpAnyH_take (i := 3) (v := ?_) rfl (by kernel_rfl) (by kernel_rfl) (by kernel_rfl) (fun _ _ _ h => h) (Or.inl ⟨by rfl, by intro w hSw; obtain ⟨sS, sC⟩ := hSw; have t0 : w.cell? ⟨p.S, 3, none⟩ = some (.pointer (some ⟨p.St, 0, none⟩)) := blkC sS 3; go_simp; first | done | with_reducible rfl⟩) hH ?_
  simp only [List.getElem_toArray, List.getElem_cons_succ, List.getElem_cons_zero, Act.put, List.setIfInBounds_toArray, List.set_cons_zero, List.set_cons_succ]
  refine wpAnyH_take (i := 4) (v := ?_) rfl (by kernel_rfl) (by kernel_rfl) (by kernel_rfl) (fun _ _ _ h => h) (Or.inl ⟨by rfl, by intro w hSw; go_simp; first | done | with_reducible rfl⟩) hH ?_
  simp only [List.getElem_toArray, List.getElem_cons_succ, List.getElem_cons_zero, Act.put, List.setIfInBounds_toArray, List.set_cons_zero, List.set_cons_succ]
  refine wpAnyH_take (i := 5) (v := ?_) rfl (by kernel_rfl) (by kernel_rfl) (by kernel_rfl) (fun _ _ _ h => h) (Or.inl ⟨by rfl, by intro w hSw; obtain ⟨sS, sC⟩ := hSw; have t0 : w.cell? ⟨v.heap.size, 6, none⟩ = some (.string c.key) := blkC sC 6; go_simp; first | done | with_reducible rfl⟩) hH ?_
  simp only [List.getElem_toArray, List.getElem_cons_succ, List.getElem_cons_zero, Act.put, List.setIfInBounds_toArray, List.set_cons_zero, List.set_cons_succ]
  refine wpAnyH_take (i := 6) (v := ?_) rfl (by kernel_rfl) (by kernel_rfl) (by kernel_rfl) (fun _ _ _ h => h) (Or.inl ⟨by rfl, by intro w hSw; go_simp; first | done | with_reducible rfl⟩) hH ?_
  simp only [List.getElem_toArray, List.getElem_cons_succ, List.getElem_cons_zero, Act.put, List.setIfInBounds_toArray, List.set_cons_zero, List.set_cons_succ]
  refine wpAnyH_take (i := 7) (v := ?_) rfl (by kernel_rfl) (by kernel_rfl) (by kernel_rfl) (fun _ _ _ h => h) (Or.inl ⟨by rfl, by intro w hSw; go_simp; first | done | with_reducible rfl⟩) hH ?_
  simp only [List.getElem_toArray, List.getElem_cons_succ, List.getElem_cons_zero, Act.put, List.setIfInBounds_toArray, List.set_cons_zero, List.set_cons_succ]
  refine wpAnyH_take (i := 8) (v := ?_) rfl (by kernel_rfl) (by kernel_rfl) (by kernel_rfl) (fun _ _ _ h => h) (Or.inl ⟨by rfl, by intro w hSw; obtain ⟨sS, sC⟩ := hSw; have t0 : w.cell? ⟨v.heap.size, 5, none⟩ = some (.int .i64 c.e.2.2) := blkC sC 5; go_simp; first | done | with_reducible rfl⟩) hH ?_
  simp only [List.getElem_toArray, List.getElem_cons_succ, List.getElem_cons_zero, Act.put, List.setIfInBounds_toArray, List.set_cons_zero, List.set_cons_succ]
  refine wpAnyH_take (i := 9) (v := ?_) rfl (by kernel_rfl) (by kernel_rfl) (by kernel_rfl) (fun _ _ _ h => h) (Or.inl ⟨by rfl, by intro w hSw; go_simp; first | done | with_reducible rfl⟩) hH ?_
  simp only [List.getElem_toArray, List.getElem_cons_succ, List.getElem_cons_zero, Act.put, List.setIfInBounds_toArray, List.set_cons_zero, List.set_cons_succ]
  refine wpAnyH_take (i := 10) (v := ?_) rfl (by kernel_rfl) (by kernel_rfl) (by kernel_rfl) (fun _ _ _ h => h) (Or.inl ⟨by rfl, by intro w hSw; obtain ⟨sS, sC⟩ := hSw; have t0 : w.cell? ⟨v.heap.size, 7, none⟩ = some (.int .i64 c.dl) := blkC sC 7; go_simp; first | done | with_reducible rfl⟩) hH ?_
  simp only [List.getElem_toArray, List.getElem_cons_succ, List.getElem_cons_zero, Act.put, List.setIfInBounds_toArray, List.set_cons_zero, List.set_cons_succ]
  refine wpAnyH_ready (rs := [11]) (by kernel_rfl) (by simp) ?_
  refine AllReadyH.cons rfl (fun K hK => ?_) ?_
  · clear hH
    rw [← hW2.out]
    go_simp
    refine hg.mono ?_
    rintro e V1 ⟨rfl, hto⟩
    have sh := hto0.out V1 hto
    skip
    have e0 := sh.blk b0D.out (h.out.out (Nat.le_refl _))
    have e1 := sh.blk b1D.out (h.out.out (by omega))
    have s0 := blkC e1 0
    have s1 := blkC e1 1
    have s2 := blkC e1 2
    have sf := blkF e1; have sx := blkX e1
    simp only [List.getElem?_toArray, List.getElem?_cons_zero, List.getElem?_cons_succ] at s0 s1 s2
    have hbk := sh.sh.blk
    rw [hsv.out] at hbk
    refine hK.out _ _ ⟨hbk, e0⟩ (fun hH => ?_)
    clear hK K hg hto
    replace e0 := Lib.hid e0; replace e1 := Lib.hid e1; replace sh := Lib.hid sh; replace hbk := Lib.hid hbk
    refine wpAnyH_take (i := 12) (v := ?_) rfl (by kernel_rfl) (by kernel_rfl) (by kernel_rfl) (fun _ _ _ h => h) (Or.inl ⟨by rfl, by intro w hSw; go_simp; first | done | with_reducible rfl⟩) hH ?_
    simp only [List.getElem_toArray, List.getElem_cons_succ, List.getElem_cons_zero, Act.put, List.setIfInBounds_toArray, List.set_cons_zero, List.set_cons_succ]
    refine wpAnyH_take (i := 13) (v := ?_) rfl (by kernel_rfl) (by kernel_rfl) (by kernel_rfl) (fun _ _ _ h => h) (Or.inl ⟨by rfl, by intro w hSw; go_simp; first | done | with_reducible rfl⟩) hH ?_
    simp only [List.getElem_toArray, List.getElem_cons_succ, List.getElem_cons_zero, Act.put, List.setIfInBounds_toArray, List.set_cons_zero, List.set_cons_succ]
    refine wpAnyH_take (i := 14) (v := ?_) rfl (by kernel_rfl) (by kernel_rfl) (by kernel_rfl) (fun _ _ _ h => h) (Or.inl ⟨by rfl, by intro w hSw; go_simp; first | done | with_reducible rfl⟩) hH ?_
    simp only [List.getElem_toArray, List.getElem_cons_succ, List.getElem_cons_zero, Act.put, List.setIfInBounds_toArray, List.set_cons_zero, List.set_cons_succ]
    refine wpAnyH_take (i := 15) (v := ?_) rfl (by kernel_rfl) (by kernel_rfl) (by kernel_rfl) (fun _ _ _ h => h) (Or.inl ⟨by rfl, by intro w hSw; go_simp; first | done | with_reducible rfl⟩) hH ?_
    simp only [List.getElem_toArray, List.getElem_cons_succ, List.getElem_cons_zero, Act.put, List.setIfInBounds_toArray, List.set_cons_zero, List.set_cons_succ]
    refine wpAnyH_take (i := 16) (v := ?_) rfl (by kernel_rfl) (by kernel_rfl) (by kernel_rfl) (fun _ _ _ h => h) (Or.inl ⟨by rfl, by intro w hSw; go_simp; first | done | with_reducible rfl⟩) hH ?_
    simp only [List.getElem_toArray, List.getElem_cons_succ, List.getElem_cons_zero, Act.put, List.setIfInBounds_toArray, List.set_cons_zero, List.set_cons_succ]
    refine wpAnyH_done (by kernel_rfl) ?_ _
    clear hH
    go_wp2_with (fail)
    refine bodyPost_ret (by simp [results, Tryz.results104, go_sem, *]; try with_reducible rfl) rfl ?_
    exact ⟨rfl, (ShTo.set (ShTo.set (ShTo.set (sh.out.pre k1D.out) (a := ⟨v.heap.size + 1, 0, none⟩) (by simp only; omega) (h.out.out (by simp only; omega)) _) (a := ⟨v.heap.size + 1, 1, none⟩) (by simp only; omega) (h.out.out (by simp only; omega)) _) (a := ⟨v.heap.size + 1, 2, none⟩) (by simp only; omega) (h.out.out (by simp only; omega)) _)⟩
  exact AllReadyH.nil
end Go.Proofs.YtkpfkabdodnooaaGreatDoor

namespace Go.Proofs.YtkpfkabdodnooaaGreatDoor
open Go.RowKit Go.Shelf
set_option linter.unusedSimpArgs false
set_option linter.unusedVariables false
set_option linter.unusedSectionVars false
set_option maxRecDepth 10000
theorem StW.weak {base base' St M : Nat} {l : Ct} {w : World} (h : StW base St M l w) (hb : base' ≤ base) : StW base' St M l w := ⟨Nat.le_trans hb h.ge, Nat.le_trans hb h.gm, h.blk, h.map, h.ord, h.len, h.ok⟩
def newS (group : Int) : Sh := ⟨group, 0, [], [], [], [], []⟩
set_option maxHeartbeats 4000000 in
theorem shNew_any (group : Int) (h1 : 1 ≤ group) (h2 : group < 8) (v : World) : Calls Tryz.prog 18 #[.int .i64 group] v fun e w' => ∃ p, e = .returned (.tuple #[.pointer (some ⟨p.S, 0, none⟩), .int .i64 0]) ∧ ShW v.heap.size p (newS group) w' ∧ Below v.heap.size v w' := by
  have hm := new_ok 2048 v.heap.size v (by omega) (by omega) (Nat.le_refl _)
  have q1 : ¬ group < 1 := by omega
  have q2 : ¬ 8 ≤ group := by omega
  go_enter Tryz.func18, Tryz.ntmps18
  go_wp2_with (fail)
  refine hm.mono ?_
  rintro e W1 ⟨rfl, ht, b1⟩
  replace ht := Lib.hid ht
  clear hm
  go_wp2_with (fail)
  refine (stNew_any W1).mono ?_
  rintro e W2 ⟨St, M, rfl, hs, b2⟩
  have k2 := Lib.hid (b1.trans (b2.mono b1.size))
  have hmk1 : (Instr.makeMap 40 none).run Tryz.prog W2 = .ok (.map (some W2.heap.size)) (W2.alloc (.map #[] 0)) := run_makeMap _ W2
  have hmk2 : (Instr.makeMap 41 none).run Tryz.prog (W2.alloc (.map #[] 0)) = .ok (.map (some (W2.heap.size + 1))) ((W2.alloc (.map #[] 0)).alloc (.map #[] 0)) := by
    have := run_makeMap (P := Tryz.prog) 41 (W2.alloc (.map #[] 0))
    simpa using this
  replace hs := Lib.hid hs; replace b1 := Lib.hid b1; replace b2 := Lib.hid b2
  go_wp2_with (fail)
  refine bodyPost_ret (results_tmp2 rfl _ _ _) rfl ?_
  have bm1 : Below W2.heap.size W2 (W2.alloc (.map #[] 0)) := (Below.refl _ _).alloc (Nat.le_refl _) _
  have bm2 : Below W2.heap.size W2 ((W2.alloc (.map #[] 0)).alloc (.map #[] 0)) := bm1.alloc (by simp) _
  obtain ⟨Wf, hWf⟩ : ∃ Z, Z = ((W2.alloc (.map #[] 0)).alloc (.map #[] 0)).alloc (.cells #[.int .i64 group, .int .i64 0, .slice none 0 0, .pointer (some ⟨St, 0, none⟩), .pointer (some ⟨v.heap.size, 0, none⟩), .map (some W2.heap.size), .map (some (W2.heap.size + 1))] 43) := ⟨_, rfl⟩
  have bf : Below W2.heap.size W2 Wf := by rw [hWf]; exact bm2.alloc bm2.size _
  have bf1 : Below (W2.alloc (.map #[] 0)).heap.size (W2.alloc (.map #[] 0)) Wf := by rw [hWf]; exact ((Below.refl _ _).alloc (Nat.le_refl _) _).alloc (by simp) _
  have bf2 : Below ((W2.alloc (.map #[] 0)).alloc (.map #[] 0)).heap.size ((W2.alloc (.map #[] 0)).alloc (.map #[] 0)) Wf := by rw [hWf]; exact (Below.refl _ _).alloc (Nat.le_refl _) _
  have hblk : Wf.heap[W2.heap.size + 1 + 1]? = some (.cells #[.int .i64 group, .int .i64 0, .slice none 0 0, .pointer (some ⟨St, 0, none⟩), .pointer (some ⟨v.heap.size, 0, none⟩), .map (some W2.heap.size), .map (some (W2.heap.size + 1))] 43 (0, 0)) := by rw [hWf]; exact hpNewAt _ (by simp)
  have hks := k2.out.size
  have hmt := hs.out.mlt
  have g1 : MapI Tryz.prog 3 givE Wf W2.heap.size [] := (MapOf.congr (MapOf.made W2 Tryz.prog 3) (f' := iF givE []) (fun key kl hk => by unfold iF; split <;> rfl)).below bf1
  have g2 : MapI Tryz.prog 3 takE Wf (W2.heap.size + 1) [] := by
    have h0 := MapOf.made (W2.alloc (.map #[] 0)) Tryz.prog 3
    rw [World.size_alloc] at h0
    exact (MapOf.congr h0 (f' := iF takE []) (fun key kl hk => by unfold iF; split <;> rfl)).below bf2
  refine ⟨⟨W2.heap.size + 1 + 1, St, M, v.heap.size, W2.heap.size, W2.heap.size + 1, none, 0, none, 0⟩, rfl, ?_, ?_⟩
  · show ShW v.heap.size _ _ _
    rw [← hWf]
    exact ⟨(by show v.heap.size ≤ W2.heap.size + 1 + 1; omega), hks, (by show v.heap.size ≤ W2.heap.size + 1; omega), hblk, GOwn.nil _ _, (hs.out.weak b1.out.size).below bf, ht.out.below (b2.out.trans (bf.mono b2.out.size)), g1, g2, (fun g hg => by cases hg), List.Pairwise.nil, (fun y hy => by cases hy), List.Pairwise.nil, List.Pairwise.nil, (by show M ≠ W2.heap.size; omega), (by show M ≠ W2.heap.size + 1; omega), (by show W2.heap.size ≠ W2.heap.size + 1; omega)⟩
  · rw [← hWf]
    exact k2.out.trans (bf.mono k2.out.size)
end Go.Proofs.YtkpfkabdodnooaaGreatDoor

namespace Go.Proofs.YtkpfkabdodnooaaGreatDoor
open Go.RowKit Go.Shelf
set_option linter.unusedSimpArgs false
set_option linter.unusedVariables false
set_option linter.unusedSectionVars false
set_option maxRecDepth 10000
theorem at_key (b : Nat) (w : World) : Calls Tryz.prog 190 #[.pointer (some ⟨b, 0, none⟩)] w fun e w' => e = .returned (.pointer (some ⟨b, 6, none⟩)) ∧ w' = w := by
  go_enter Tryz.func190, Tryz.ntmps190
  go_wp2_with (fail)
  go_ret
  exact ⟨rfl, rfl⟩
theorem at_call (b : Nat) (w : World) : Calls Tryz.prog 199 #[.pointer (some ⟨b, 0, none⟩)] w fun e w' => e = .returned (.pointer (some ⟨b, 1, none⟩)) ∧ w' = w := by
  go_enter Tryz.func199, Tryz.ntmps199
  go_wp2_with (fail)
  go_ret
  exact ⟨rfl, rfl⟩
theorem at_move (b : Nat) (w : World) : Calls Tryz.prog 200 #[.pointer (some ⟨b, 0, none⟩)] w fun e w' => e = .returned (.pointer (some ⟨b, 8, none⟩)) ∧ w' = w := by
  go_enter Tryz.func200, Tryz.ntmps200
  go_wp2_with (fail)
  go_ret
  exact ⟨rfl, rfl⟩
theorem at_data (b : Nat) (w : World) : Calls Tryz.prog 207 #[.pointer (some ⟨b, 0, none⟩)] w fun e w' => e = .returned (.pointer (some ⟨b, 23, none⟩)) ∧ w' = w := by
  go_enter Tryz.func207, Tryz.ntmps207
  go_wp2_with (fail)
  go_ret
  exact ⟨rfl, rfl⟩
theorem eff_ok {b : Nat} {c : Cd} {w : World} (h : w.heap[b]? = some (.cells (cdV c) 33 (0, 0))) : Calls Tryz.prog 182 #[.pointer (some ⟨b, 0, none⟩)] w fun e w' => e = .returned (.bool (okE c.e)) ∧ Below w.heap.size w w' := by
  have z3 : w.cell? ⟨b, 3, none⟩ = some (.int .i64 c.e.1) := blkC h 3
  have z4 : w.cell? ⟨b, 4, none⟩ = some (.int .i64 c.e.2.1) := blkC h 4
  have z5 : w.cell? ⟨b, 5, none⟩ = some (.int .i64 c.e.2.2) := blkC h 5
  have hx := blkX h
  have hc := checkE_any c.e.1 c.e.2.1 c.e.2.2 w
  unfold chkE at hc
  rw [show okE (c.e.1, c.e.2.1, c.e.2.2) = okE c.e from rfl] at hc
  replace h := Lib.hid h
  cases ho : okE c.e with
  | true =>
    rw [ho] at hc
    simp only [if_true, Bool.false_eq_true, if_false] at hc
    replace ho := Lib.hid ho
    go_enter Tryz.func182, Tryz.ntmps182
    go_wp2_with (fail)
    refine hc.mono ?_
    rintro e w' ⟨rfl, b2⟩
    replace b2 := Lib.hid b2
    go_wp2_with (fail)
    go_ret
    exact ⟨rfl, b2.out⟩
  | false =>
    rw [ho] at hc
    simp only [if_true, Bool.false_eq_true, if_false] at hc
    replace ho := Lib.hid ho
    go_enter Tryz.func182, Tryz.ntmps182
    go_wp2_with (fail)
    refine hc.mono ?_
    rintro e w' ⟨rfl, b2⟩
    replace b2 := Lib.hid b2
    go_wp2_with (fail)
    go_ret
    exact ⟨rfl, b2.out⟩
theorem range_ok {b : Nat} {c : Cd} {w : World} (h : w.heap[b]? = some (.cells (cdV c) 33 (0, 0))) (hs : szG c.r) : Calls Tryz.prog 201 #[.pointer (some ⟨b, 0, none⟩)] w fun e w' => e = .returned (.bool (okG c.r)) ∧ Below w.heap.size w w' := by
  have z9 : w.cell? ⟨b, 9, none⟩ = some (.string c.r.1) := blkC h 9
  have z10 : w.cell? ⟨b, 10, none⟩ = some (.string c.r.2) := blkC h 10
  have hx := blkX h
  have hc := rng_any c.r.1 c.r.2 w hs.1 hs.2
  rw [show takeC (c.r.1, c.r.2) = takeC c.r from rfl] at hc
  replace h := Lib.hid h
  cases ho : okG c.r with
  | true =>
    rw [takeC_ok ho] at hc
    replace ho := Lib.hid ho
    go_enter Tryz.func201, Tryz.ntmps201
    go_wp2_with (fail)
    refine hc.mono ?_
    rintro e w' ⟨rfl, b2⟩
    replace b2 := Lib.hid b2
    go_wp2_with (fail)
    go_ret
    exact ⟨rfl, b2.out⟩
  | false =>
    rw [takeC_bad ho] at hc
    replace ho := Lib.hid ho
    go_enter Tryz.func201, Tryz.ntmps201
    go_wp2_with (fail)
    refine hc.mono ?_
    rintro e w' ⟨rfl, b2⟩
    replace b2 := Lib.hid b2
    go_wp2_with (fail)
    go_ret
    exact ⟨rfl, b2.out⟩
def okD (d : Int) : Bool := !decide (d = 0) && Co.inNum d
theorem delta_ok {b : Nat} {c : Cd} {w : World} (h : w.heap[b]? = some (.cells (cdV c) 33 (0, 0))) : Calls Tryz.prog 192 #[.pointer (some ⟨b, 0, none⟩)] w fun e w' => e = .returned (.bool (okD c.dl)) ∧ Below w.heap.size w w' := by
  have z7 : w.cell? ⟨b, 7, none⟩ = some (.int .i64 c.dl) := blkC h 7
  have hx := blkX h
  have hc := Co.numCheck_any c.dl w
  replace h := Lib.hid h
  by_cases hz : c.dl = 0
  · have ho : okD c.dl = false := by unfold okD; rw [hz]; rfl
    rw [ho]
    have hz1 : (c.dl != 0) = false := by rw [hz]; rfl
    replace hz := Lib.hid hz; replace ho := Lib.hid ho; clear hc
    go_enter Tryz.func192, Tryz.ntmps192
    go_wp2_with (fail)
    go_ret
    exact ⟨rfl, Below.refl _ _⟩
  · have ho : okD c.dl = Co.inNum c.dl := by unfold okD; rw [decide_eq_false hz]; rfl
    rw [ho]
    have hz1 : (c.dl != 0) = true := by simpa using hz
    replace hz := Lib.hid hz; replace ho := Lib.hid ho
    unfold Co.ncE at hc
    cases hi : Co.inNum c.dl with
    | true =>
      rw [hi] at hc
      simp only [if_true, Bool.false_eq_true, if_false] at hc
      replace hi := Lib.hid hi
      go_enter Tryz.func192, Tryz.ntmps192
      go_wp2_with (fail)
      refine hc.mono ?_
      rintro e w' ⟨rfl, hw⟩
      go_wp2_with (fail)
      go_ret
      exact ⟨rfl, by rw [hw]; exact Below.refl _ _⟩
    | false =>
      rw [hi] at hc
      simp only [if_true, Bool.false_eq_true, if_false] at hc
      replace hi := Lib.hid hi
      go_enter Tryz.func192, Tryz.ntmps192
      go_wp2_with (fail)
      refine hc.mono ?_
      rintro e w' ⟨rfl, hw⟩
      go_wp2_with (fail)
      go_ret
      exact ⟨rfl, by rw [hw]; exact Below.refl _ _⟩
theorem data_ok (s : ByteArray) (w : World) : Calls Tryz.prog 208 #[.string s] w fun e w' => e = .returned (.bool (decide (s.size ≤ 65536))) ∧ w' = w := by
  by_cases hs : s.size ≤ 65536
  · have hi : (s.size : Int) ≤ 65536 := by omega
    rw [decide_eq_true hs]
    go_enter Tryz.func208, Tryz.ntmps208
    go_wp2_with (fail)
    go_ret
    exact ⟨by simp <;> omega, rfl⟩
  · have hi : ¬ (s.size : Int) ≤ 65536 := by omega
    rw [decide_eq_false hs]
    go_enter Tryz.func208, Tryz.ntmps208
    go_wp2_with (fail)
    go_ret
    exact ⟨by simp <;> omega, rfl⟩
end Go.Proofs.YtkpfkabdodnooaaGreatDoor

namespace Go.Proofs.YtkpfkabdodnooaaGreatDoor
open Go.RowKit Go.Shelf
set_option linter.unusedSimpArgs false
set_option linter.unusedVariables false
set_option linter.unusedSectionVars false
set_option maxRecDepth 10000
structure CdTo (b : Nat) (c' : Cd) (w w' : World) : Prop where
  blk : w'.heap[b]? = some (.cells (cdV c') 33 (0, 0))
  chg : Chg (fun k => k = b) w w'
theorem chg_set {w : World} {b i : Nat} {v : Value} : Chg (fun k => k = b) w (w.setCell ⟨b, i, none⟩ v) := ⟨rfl, rfl, rfl, by simp, fun k hk hn => hpFar (by simp only; exact hn)⟩
theorem eff_clear {b : Nat} {c : Cd} {w : World} (h : w.heap[b]? = some (.cells (cdV c) 33 (0, 0))) : Calls Tryz.prog 188 #[.pointer (some ⟨b, 0, none⟩)] w fun e w' => e = .returned (.tuple #[]) ∧ CdTo b { c with e := (0, 0, 0) } w w' := by
  have z3 : w.cell? ⟨b, 3, none⟩ = some (.int .i64 c.e.1) := blkC h 3
  have z4 : w.cell? ⟨b, 4, none⟩ = some (.int .i64 c.e.2.1) := blkC h 4
  have z5 : w.cell? ⟨b, 5, none⟩ = some (.int .i64 c.e.2.2) := blkC h 5
  have hx := blkX h
  have hf := blkF h
  have hq := hpSet (i := 5) (v := .int .i64 0) (hpSet (i := 4) (v := .int .i64 0) (hpSet (i := 3) (v := .int .i64 0) (h)))
  replace h := Lib.hid h
  replace hq := Lib.hid hq
  go_enter Tryz.func188, Tryz.ntmps188
  go_wp2_with (fail)
  go_end0
  exact ⟨rfl, hq.out, ((chg_set).trans chg_set (fun _ _ q => q)).trans chg_set (fun _ _ q => q)⟩
theorem delta_clear {b : Nat} {c : Cd} {w : World} (h : w.heap[b]? = some (.cells (cdV c) 33 (0, 0))) : Calls Tryz.prog 197 #[.pointer (some ⟨b, 0, none⟩)] w fun e w' => e = .returned (.tuple #[]) ∧ CdTo b { c with dl := 0 } w w' := by
  have z7 : w.cell? ⟨b, 7, none⟩ = some (.int .i64 c.dl) := blkC h 7
  have hx := blkX h
  have hf := blkF h
  have hq := hpSet (i := 7) (v := .int .i64 0) (h)
  replace h := Lib.hid h
  replace hq := Lib.hid hq
  go_enter Tryz.func197, Tryz.ntmps197
  go_wp2_with (fail)
  go_end0
  exact ⟨rfl, hq.out, chg_set⟩
theorem range_clear {b : Nat} {c : Cd} {w : World} (h : w.heap[b]? = some (.cells (cdV c) 33 (0, 0))) : Calls Tryz.prog 206 #[.pointer (some ⟨b, 0, none⟩)] w fun e w' => e = .returned (.tuple #[]) ∧ CdTo b { c with r := (noText, noText) } w w' := by
  have z9 : w.cell? ⟨b, 9, none⟩ = some (.string c.r.1) := blkC h 9
  have z10 : w.cell? ⟨b, 10, none⟩ = some (.string c.r.2) := blkC h 10
  have hx := blkX h
  have hf := blkF h
  have hq := hpSet (i := 10) (v := .string ⟨#[]⟩) (hpSet (i := 9) (v := .string ⟨#[]⟩) (h))
  replace h := Lib.hid h
  replace hq := Lib.hid hq
  go_enter Tryz.func206, Tryz.ntmps206
  go_wp2_with (fail)
  go_end0
  exact ⟨rfl, hq.out, (chg_set).trans chg_set (fun _ _ q => q)⟩
theorem mk_eff (w : World) : Calls Tryz.prog 129 #[] w fun e w' => e = .returned (.agg #[.func (.func 182) #[] #[], .func (.func 183) #[] #[], .func (.func 184) #[] #[], .func (.func 186) #[] #[], .func (.func 188) #[] #[]]) ∧ Below w.heap.size w w' := by
  go_enter Tryz.func129, Tryz.ntmps129
  go_wp2_with (fail)
  refine bodyPost_ret (by simp [results, Tryz.results129, go_sem, *]; try with_reducible rfl) rfl ?_
  exact ⟨rfl, (Below.refl _ w).alloc (Nat.le_refl _) _⟩
theorem mk_delta (w : World) : Calls Tryz.prog 131 #[] w fun e w' => e = .returned (.agg #[.func (.func 192) #[] #[], .func (.func 193) #[] #[], .func (.func 194) #[] #[], .func (.func 195) #[] #[], .func (.func 197) #[] #[]]) ∧ Below w.heap.size w w' := by
  go_enter Tryz.func131, Tryz.ntmps131
  go_wp2_with (fail)
  refine bodyPost_ret (by simp [results, Tryz.results131, go_sem, *]; try with_reducible rfl) rfl ?_
  exact ⟨rfl, (Below.refl _ w).alloc (Nat.le_refl _) _⟩
theorem mk_range (w : World) : Calls Tryz.prog 134 #[] w fun e w' => e = .returned (.agg #[.func (.func 201) #[] #[], .func (.func 202) #[] #[], .func (.func 203) #[] #[], .func (.func 204) #[] #[], .func (.func 206) #[] #[]]) ∧ Below w.heap.size w w' := by
  go_enter Tryz.func134, Tryz.ntmps134
  go_wp2_with (fail)
  refine bodyPost_ret (by simp [results, Tryz.results134, go_sem, *]; try with_reducible rfl) rfl ?_
  exact ⟨rfl, (Below.refl _ w).alloc (Nat.le_refl _) _⟩
end Go.Proofs.YtkpfkabdodnooaaGreatDoor

namespace Go.Proofs.YtkpfkabdodnooaaGreatDoor
open Go.RowKit Go.Shelf
set_option linter.unusedSimpArgs false
set_option linter.unusedVariables false
set_option linter.unusedSectionVars false
set_option maxRecDepth 10000
attribute [local go_sem ↓] hideAppend
theorem eql_nilG (W : World) (A : Option Addr) (n c : Nat) : (binOp .eql 37 (.slice A n c) (.slice none 0 0)).run Tryz.prog W = .ok (.bool A.isNone) W := by
  have h : ∀ d : Nat, (Op.equalIn (d + 1) 37 (.slice A n c) (.slice none 0 0)).run Tryz.prog W = .ok A.isNone W := fun d => by
    cases A <;> simp [Op.equalIn, run_underlying Tryz.underlying37]
  simp only [binOp]
  simp [Op.equal, Op.maxDepth, h 9999]
set_option maxHeartbeats 4000000 in
theorem cloneG_any {A : Option Addr} {n c : Nat} {l : List Rg} {w : World} (h : GS w A n l) (hn : n ≤ 1000000) :
    Calls Tryz.prog 38 #[.slice A n c] w fun e w' => ∃ A' c', e = .returned (.slice A' n c') ∧ w'.ownsRow w.heap.size 25 2 (.slice A' n c') n (flat encG l) ∧ Below w.heap.size w w' := by
  have hl := h.1
  cases A with
  | none =>
    have h0 : n = 0 := by
      rcases Nat.eq_zero_or_pos n with q | q
      · exact q
      · obtain ⟨b, o, e, _⟩ := h.2 q
        cases e
    subst h0
    have hl0 : l = [] := List.length_eq_zero_iff.1 hl
    subst hl0
    replace h := Lib.hid h
    have hq := fun W => eql_nilG W none 0 c
    go_enter Tryz.func38, Tryz.ntmps38
    go_wp2_with (fail)
    go_ret
    exact ⟨none, 0, rfl, ⟨rfl, .inl ⟨rfl, rfl⟩⟩, Below.refl _ _⟩
  | some a =>
    have hq := fun W => eql_nilG W (some a) n c
    have kb := (Below.refl w.heap.size w).alloc (Nat.le_refl _) (.cells #[] 25)
    have hnew := hpNew w (.cells #[] 25)
    have hown : (w.alloc (.cells #[] 25)).ownsRow w.heap.size 25 2 (.slice (some ⟨w.heap.size, 0, none⟩) 0 0) 0 (flat encG []) := own_mk (Nat.le_refl _) hnew (Nat.le_refl _) (by unfold maxLen; omega) (by simp) (by simp [flat]) (by simp [flat])
    obtain ⟨A', c', w1, hrun, hcap, hown1, hgr, hat⟩ := append_sl elemG encG_len encG_one (ty := 37) (d := c) hown (by simp) (SL.keep h kb) (by omega) (by omega)
    simp only [Nat.zero_add, List.nil_append] at hrun hown1
    have hbel : Below w.heap.size w w1 := ⟨(hgr.os).trans kb.os, hgr.tape.trans kb.tape, hgr.output.trans kb.output, Nat.le_trans kb.size hgr.size, fun k hk => (hgr.block k (by have := kb.size; omega) fun e => by have e2 : some k = some w.heap.size := e; injection e2 with e2; omega).trans (kb.block k hk)⟩
    replace hown1 := Lib.hid hown1; replace hbel := Lib.hid hbel; replace hgr := Lib.hid hgr; replace hat := Lib.hid hat; replace hown := Lib.hid hown; replace h := Lib.hid h; replace kb := Lib.hid kb; replace hnew := Lib.hid hnew
    go_enter Tryz.func38, Tryz.ntmps38
    go_wp2_with (fail)
    go_ret
    exact ⟨A', c', rfl, hown1.out, hbel.out⟩

theorem shRanges_any {base : Nat} {p : Pl} {x : Sh} {w : World} (h : ShW base p x w) (hn : x.own.length ≤ 1000000) : Calls Tryz.prog 11 #[.pointer (some ⟨p.S, 0, none⟩)] w fun e w' => ∃ A' c', e = .returned (.slice A' x.own.length c') ∧ GOwn w.heap.size w' A' x.own.length c' x.own ∧ Below w.heap.size w w' := by
  have hv := shValid_any h
  have c2 : w.cell? ⟨p.S, 2, none⟩ = some (.slice p.A x.own.length p.c) := blkC h.blk 2
  have hlt := h.lt
  have hc := cloneG_any (c := p.c) h.gs hn
  replace h := Lib.hid h
  go_enter Tryz.func11, Tryz.ntmps11
  go_wp2_with (fail)
  refine hv.mono ?_
  rintro e w2 ⟨rfl, rfl⟩
  go_wp2_with (fail)
  refine hc.mono ?_
  rintro e w3 ⟨A', c', rfl, ho, b3⟩
  replace ho := Lib.hid ho; replace b3 := Lib.hid b3
  go_wp2_with (fail)
  go_ret
  exact ⟨A', c', rfl, ho.out, b3.out⟩
end Go.Proofs.YtkpfkabdodnooaaGreatDoor
