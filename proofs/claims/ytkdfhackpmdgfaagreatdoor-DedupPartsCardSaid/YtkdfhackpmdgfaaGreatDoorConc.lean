/- slices.Grow of nothing; slices.Concat of two. -/
import Derived.Test.YtkdfhackpmdgfaaGreatDoorTab
import Derived.Test.YtkdfhackpmdgfaaGreatDoorRowC
import Derived.Test.YtkdfhackpmdgfaaGreatDoorIns
import Derived.Lib.AppendZeros
namespace Go.Proofs.YtkdfhackpmdgfaaGreatDoor
open Go.RowKit Go.Shelf
set_option linter.unusedSimpArgs false
set_option linter.unusedVariables false
set_option linter.unusedSectionVars false
set_option maxRecDepth 10000
attribute [-go_sem] sliced
attribute [local go_sem ↓] hideAppend
set_option maxHeartbeats 4000000 in
theorem grow_nil (v : Int) (N : Nat) (hv : v = (N : Int)) (hN : N ≤ 1000000) (w : World) : Calls Tryz.prog 29 #[.slice none 0 0, .int .i64 v] w fun e w' => ∃ A c, e = .returned (.slice A 0 c) ∧ w'.ownsRow w.heap.size 39 3 (.slice A 0 c) 0 (flat encE []) ∧ Below w.heap.size w w' := by
  subst hv
  rcases Nat.eq_zero_or_pos N with h0 | h0
  · subst h0
    have kb := Lib.hid (Below.refl w.heap.size w)
    go_enter Tryz.func29, Tryz.ntmps29
    go_wp2_with (fail)
    go_ret
    exact ⟨none, 0, rfl, World.ownsRow_nil _ _ _ _, kb.out⟩
  · obtain ⟨hu, ⟨i0, z, hi0, hz0, hz1, hz2, hzc⟩, hp⟩ := elemE
    have hr := Lib.run_append_nil_zeros (P := Tryz.prog) w 33 3 33 39 i0 z .i64 .i64 hu Tryz.underlying3 hi0 hz0 N h0 (by omega) (by omega) (by rw [hz2]; omega)
    have hcge := grownCap_ge w N 0 39
    have hcm := grownCap_le_maxLen w N 0 39 (by unfold maxLen; omega)
    generalize grownCap w N 0 39 = c2 at *
    obtain ⟨Z, hZ⟩ : ∃ Z : Array Value, Z = Builtin.zeroCells z.cells N ++ Builtin.zeroCells z.cells (c2 - N) := ⟨_, rfl⟩
    have hZs : Z.size = c2 * 3 := by rw [hZ, Array.size_append, size_zeroCells, size_zeroCells, hzc]; omega
    rw [← hZ] at hr
    obtain ⟨W2, hW2⟩ : ∃ W2, W2 = w.drew.alloc (.cells Z 39) := ⟨_, rfl⟩
    rw [← hW2] at hr
    have hrun : (appSem #[33, 3] 33 #[.slice none 0 0, .int .i64 N]).run Tryz.prog w = .ok (.slice (some ⟨w.heap.size, 0, none⟩) N c2) W2 := hr
    have hg2 : W2.heap[w.heap.size]? = some (.cells Z 39 (0, 0)) := by rw [hW2]; exact hpNew w.drew _
    have hb : Below w.heap.size w W2 := by rw [hW2]; exact ((Below.refl w.heap.size w).drew).alloc (Nat.le_refl _) _
    have hs1 : sliced none 0 0 0 3 = .slice none 0 0 := sliced_low _ _ _ _ (fun a e => by cases e)
    have hs2 : sliced (some ⟨w.heap.size, 0, none⟩) 0 0 c2 3 = .slice (some ⟨w.heap.size, 0, none⟩) 0 c2 := sliced_low _ _ _ _ (fun a e => by injection e with e; rw [← e])
    have hown : W2.ownsRow w.heap.size 39 3 (.slice (some ⟨w.heap.size, 0, none⟩) 0 c2) 0 (flat encE []) := own_mk (Nat.le_refl _) hg2 (Nat.zero_le _) hcm (by rw [hZs]) rfl rfl
    have q1 : (0 : Int) < (N : Int) := by omega
    have q2 : ¬ (N : Int) < 0 := by omega
    have q3 : (0 : Int) ≤ (c2 : Int) := by omega
    replace hown := Lib.hid hown; replace hb := Lib.hid hb; replace hg2 := Lib.hid hg2; replace hZs := Lib.hid hZs; replace hZ := Lib.hid hZ; replace hW2 := Lib.hid hW2; replace hr := Lib.hid hr
    clear hu hi0 hz0 hz1 hz2 hzc hp
    go_enter Tryz.func29, Tryz.ntmps29
    go_wp2_with (fail)
    go_ret
    exact ⟨_, c2, rfl, hown.out, hb.out⟩
set_option maxHeartbeats 8000000 in
theorem concat2 {A B : Option Addr} {n c m d G cp : Nat} {l r : List Ef} {w : World} (hG : w.heap[G]? = some (.cells #[.slice A n c, .slice B m d] 33 (0, 0))) (hA : ES w A n l) (hB : ES w B m r) (hn : n ≤ 3000) (hm : m ≤ 3000) :
    Calls Tryz.prog 9 #[.slice (some ⟨G, 0, none⟩) 2 cp] w fun e w' => ∃ C cc, e = .returned (.slice C (n + m) cc) ∧ w'.ownsRow w.heap.size 39 3 (.slice C (n + m) cc) (n + m) (flat encE (l ++ r)) ∧ Below w.heap.size w w' := by
  have lG := Lib.hid (blkX hG)
  have c0' := Lib.hid (show w.cell? ⟨G, 0, none⟩ = some (.slice A n c) from blkC hG 0)
  have c1' := Lib.hid (show w.cell? ⟨G, 1, none⟩ = some (.slice B m d) from blkC hG 1)
  replace hG := Lib.hid hG; replace hA := Lib.hid hA; replace hB := Lib.hid hB
  go_enter Tryz.func9, Tryz.ntmps9
  go_wp2_with (fail)
  go_loopw [3, 11] (fun s i wr => wr = w ∧ ((i = .int .i64 0 ∧ s = .int .i64 0) ∨ (i = .int .i64 1 ∧ s = .int .i64 (n : Int)) ∨ (i = .int .i64 2 ∧ s = .int .i64 ((n : Int) + m)))) (fun _ i _ => 2 - (intOf i).toNat)
  case atStart => exact ⟨rfl, .inl ⟨rfl, rfl⟩⟩
  case round =>
    revert wr
    intro w1 hrel
    obtain ⟨rfl, ⟨rfl, rfl⟩ | ⟨rfl, rfl⟩ | ⟨rfl, rfl⟩⟩ := hrel
    · have c0 := c0'.out
      have q1 : ¬ (n : Int) < 0 := by omega
      go_wp2_with (fail)
      exact ⟨⟨by trivial, .inr (.inl ⟨rfl, rfl⟩)⟩, by simp [intOf]⟩
    · have c1 := c1'.out
      have q1 : ¬ (n : Int) + (m : Int) < 0 := by omega
      go_wp2_with (fail)
      exact ⟨⟨by trivial, .inr (.inr ⟨rfl, rfl⟩)⟩, by simp [intOf]⟩
    · have hg := grow_nil ((n : Int) + m) (n + m) (by omega) (by omega) w1
      go_wp2_with (fail)
      refine hg.mono ?_
      rintro e w2 ⟨C0, cc0, rfl, hown0, hb0⟩
      replace hown0 := Lib.hid hown0; replace hb0 := Lib.hid hb0
      clear hg
      go_wp2_with (fail)
      go_loopw [6, 27] (fun out i wr => (i = .int .i64 0 ∧ ∃ C cc, out = .slice C 0 cc ∧ wr.ownsRow w1.heap.size 39 3 (.slice C 0 cc) 0 (flat encE []) ∧ Below w1.heap.size w1 wr) ∨ (i = .int .i64 1 ∧ ∃ C cc, out = .slice C n cc ∧ wr.ownsRow w1.heap.size 39 3 (.slice C n cc) n (flat encE l) ∧ Below w1.heap.size w1 wr) ∨ (i = .int .i64 2 ∧ ∃ C cc, out = .slice C (n + m) cc ∧ wr.ownsRow w1.heap.size 39 3 (.slice C (n + m) cc) (n + m) (flat encE (l ++ r)) ∧ Below w1.heap.size w1 wr)) (fun _ i _ => 2 - (intOf i).toNat)
      case atStart => exact .inl ⟨rfl, C0, cc0, rfl, hown0.out, hb0.out⟩
      case round =>
        clear hown0 hb0
        revert wr
        intro W hrel
        rcases hrel with ⟨rfl, C, cc, rfl, hown, hb⟩ | ⟨rfl, C, cc, rfl, hown, hb⟩ | ⟨rfl, C, cc, rfl, hown, hb⟩
        · have c0 := (hb.cell (p := ⟨G, 0, none⟩) lG.out).trans c0'.out
          obtain ⟨C2, cc2, w2, hrun, hcap, hown2, hgr, hat⟩ := append_sl elemE encE_len encE_one (ty := 33) (d := c) hown hb.size (SL.keep hA.out hb) (by omega) (by omega)
          have hb2 := Lib.hid (hb.grown hgr hb.size (fun k e => (own_row hown k e).1))
          simp only [Nat.zero_add, List.nil_append] at hrun hown2
          replace hown2 := Lib.hid hown2
          clear hown hgr hat hcap hb
          go_wp2_with (fail)
          exact ⟨.inr (.inl ⟨rfl, C2, cc2, rfl, hown2.out, hb2.out⟩), by simp [intOf]⟩
        · have c1 := (hb.cell (p := ⟨G, 1, none⟩) lG.out).trans c1'.out
          obtain ⟨C2, cc2, w2, hrun, hcap, hown2, hgr, hat⟩ := append_sl elemE encE_len encE_one (ty := 33) (d := d) hown hb.size (SL.keep hB.out hb) (by omega) (by omega)
          have hb2 := Lib.hid (hb.grown hgr hb.size (fun k e => (own_row hown k e).1))
          replace hown2 := Lib.hid hown2
          clear hown hgr hat hcap hb
          go_wp2_with (fail)
          exact ⟨.inr (.inr ⟨rfl, C2, cc2, rfl, hown2.out, hb2.out⟩), by simp [intOf]⟩
        · replace hown := Lib.hid hown; replace hb := Lib.hid hb
          go_wp2_with (fail)
          go_ret
          exact ⟨C, cc, rfl, hown.out, hb.out⟩
end Go.Proofs.YtkdfhackpmdgfaaGreatDoor
