/- slices.Concat at ranges. -/
import Derived.Test.YtgnjnpddehdmcaaGreatDoorChgW
import Derived.Test.YtgnjnpddehdmcaaGreatDoorRange
import Derived.Test.YtgnjnpddehdmcaaGreatDoorIns
import Derived.Lib.AppendZeros
namespace Go.Proofs.YtgnjnpddehdmcaaGreatDoor
open Go.RowKit Go.Shelf
set_option linter.unusedSimpArgs false
set_option linter.unusedVariables false
set_option linter.unusedSectionVars false
set_option maxRecDepth 10000
attribute [-go_sem] sliced
attribute [local go_sem ↓] hideAppend
set_option maxHeartbeats 4000000 in
theorem growG_nil (v : Int) (N : Nat) (hv : v = (N : Int)) (hN : N ≤ 1000000) (w : World) : Calls Tryz.prog 172 #[.slice none 0 0, .int .i64 v] w fun e w' => ∃ A c, e = .returned (.slice A 0 c) ∧ w'.ownsRow w.heap.size 32 2 (.slice A 0 c) 0 (flat encG []) ∧ Below w.heap.size w w' := by
 subst hv
 rcases Nat.eq_zero_or_pos N with h0 | h0
 ·
  subst h0
  have kb := Lh (Below.refl w.heap.size w)
  go_enter Tryz.func172, Tryz.ntmps172
  go_wp2_with (fail)
  go_ret
  exact ⟨none, 0, rfl, World.ownsRow_nil _ _ _ _, kb.out⟩
 ·
  obtain ⟨hu, ⟨i0, z, hi0, hz0, hz1, hz2, hzc⟩, hp⟩ := elemG
  have hr := Lib.run_append_nil_zeros (P := Tryz.prog) w 42 3 42 32 i0 z .i64 .i64 hu Tryz.underlying3 hi0 hz0 N h0 (by omega) (by omega) (by rw [hz2]; omega)
  have hcge := grownCap_ge w N 0 32
  have hcm := grownCap_le_maxLen w N 0 32 (by unfold maxLen; omega)
  generalize grownCap w N 0 32 = c2 at *
  obtain ⟨Z, hZ⟩ : ∃ Z : Array Value, Z = Builtin.zeroCells z.cells N ++ Builtin.zeroCells z.cells (c2 - N) := ⟨_, rfl⟩
  have hZs : Z.size = c2 * 2 := by rw [hZ, Array.size_append, size_zeroCells, size_zeroCells, hzc]; omega
  rw [← hZ] at hr
  obtain ⟨W2, hW2⟩ : ∃ W2, W2 = w.drew.alloc (.cells Z 32) := ⟨_, rfl⟩
  rw [← hW2] at hr
  have hrun : (appSem #[42, 3] 42 #[.slice none 0 0, .int .i64 N]).run Tryz.prog w = .ok (.slice (some ⟨w.heap.size, 0, none⟩) N c2) W2 := hr
  have hg2 : W2.heap[w.heap.size]? = some (.cells Z 32 (0, 0)) := by rw [hW2]; exact hpNew w.drew _
  have hb : Below w.heap.size w W2 := by rw [hW2]; exact ((Below.refl w.heap.size w).drew).alloc (Nat.le_refl _) _
  have hs1 : sliced none 0 0 0 2 = .slice none 0 0 := sliced_low _ _ _ _ (fun a e => by cases e)
  have hs2 : sliced (some ⟨w.heap.size, 0, none⟩) 0 0 c2 2 = .slice (some ⟨w.heap.size, 0, none⟩) 0 c2 := sliced_low _ _ _ _ (fun a e => by injection e with e; rw [← e])
  have hown : W2.ownsRow w.heap.size 32 2 (.slice (some ⟨w.heap.size, 0, none⟩) 0 c2) 0 (flat encG []) := own_mk (Nat.le_refl _) hg2 (Nat.zero_le _) hcm (by rw [hZs]) rfl rfl
  have q1 : (0 : Int) < (N : Int) := by omega
  have q2 : ¬ (N : Int) < 0 := by omega
  have q3 : (0 : Int) ≤ (c2 : Int) := by omega
  replace hown := Lh hown; replace hb := Lh hb; replace hg2 := Lh hg2; replace hZs := Lh hZs; replace hZ := Lh hZ; replace hW2 := Lh hW2; replace hr := Lh hr
  clear hu hi0 hz0 hz1 hz2 hzc hp
  go_enter Tryz.func172, Tryz.ntmps172
  go_wp2_with (fail)
  go_ret
  exact ⟨_, c2, rfl, hown.out, hb.out⟩
theorem flat_take {α : Type} {ls : List (List α)} {j : Nat} {l : List α} (h : ls[j]? = some l) : (ls.take (j + 1)).flatten = (ls.take j).flatten ++ l := by
 rw [List.take_add_one, h]; simp
theorem flat_take_le {α : Type} (ls : List (List α)) (j : Nat) : (ls.take j).flatten.length ≤ ls.flatten.length := by
 conv => rhs; rw [← List.take_append_drop j ls]
 rw [List.flatten_append, List.length_append]; omega
set_option maxHeartbeats 8000000 in
theorem concatG {G cp k : Nat} {ls : List (List Rg)} {w : World} (hk : ls.length = k) (hG : ∀ j l, ls[j]? = some l → G < w.heap.size ∧ ∃ A c, w.cell? ⟨G, j, none⟩ = some (.slice A l.length c) ∧ GS w A l.length l) (hs : ls.flatten.length ≤ 100000) (hk2 : k ≤ 1000) :
  Calls Tryz.prog 77 #[.slice (some ⟨G, 0, none⟩) k cp] w fun e w' => ∃ C cc, e = .returned (.slice C ls.flatten.length cc) ∧ GOwn w.heap.size w' C ls.flatten.length cc ls.flatten ∧ Below w.heap.size w w' := by
 have hle := fun j => flat_take_le ls j
 replace hG := Lh hG; replace hle := Lh hle
 go_enter Tryz.func77, Tryz.ntmps77
 go_wp2_with (fail)
 go_loopw [3, 11] (fun s i wr => wr = w ∧ ∃ j : Nat, j ≤ k ∧ i = .int .i64 j ∧ s = .int .i64 ((ls.take j).flatten.length : Nat)) (fun _ i _ => k - (intOf i).toNat)
 case atStart => exact ⟨by trivial, 0, by omega, rfl, rfl⟩
 case round =>
  revert wr
  intro w1 hrel
  obtain ⟨rfl, j, hj, rfl, rfl⟩ := hrel
  by_cases hlt : j < k
  ·
   obtain ⟨l, hl⟩ : ∃ l, ls[j]? = some l := ⟨_, List.getElem?_eq_getElem (by omega)⟩
   obtain ⟨hGl, A, c, hc, hgs⟩ := hG.out j l hl
   have hn := flat_take hl
   have hb := hle.out (j + 1)
   rw [hn, List.length_append] at hb
   have q1 : ¬ ((ls.take j).flatten.length : Int) + (l.length : Int) < 0 := by omega
   have hn2 : ((ls.take (j + 1)).flatten.length : Int) = ((ls.take j).flatten.length : Int) + (l.length : Int) := by rw [hn, List.length_append]; push_cast; rfl
   generalize (ls.take j).flatten.length = sm at *
   replace hn2 := Lh hn2; replace hgs := Lh hgs; replace hl := Lh hl
   clear hn
   have j0 : (0 : Int) ≤ j := by omega
   have j1 : (j : Int) < (k : Int) := by omega
   go_wp2_with (fail)
   exact ⟨⟨by trivial, j + 1, by omega, by go_num, by rw [hn2.out]⟩, by simp [intOf]; omega⟩
  ·
   obtain rfl : j = k := by omega
   rw [List.take_of_length_le (by omega)]
   obtain ⟨sm, hsm⟩ : ∃ n, n = ls.flatten.length := ⟨_, rfl⟩
   have hg := growG_nil (sm : Int) sm rfl (by omega) w1
   rw [← hsm] at hs ⊢
   have hle2 : ∀ j, (ls.take j).flatten.length ≤ sm := fun j => by rw [hsm]; exact hle.out j
   replace hle2 := Lh hle2; replace hsm := Lh hsm
   clear hle
   go_wp2_with (fail)
   refine hg.mono ?_
   rintro e w2 ⟨C0, cc0, rfl, hown0, hb0⟩
   replace hown0 := Lh hown0; replace hb0 := Lh hb0
   clear hg
   go_wp2_with (fail)
   go_loopw [6, 27] (fun out i wr => ∃ (j2 : Nat) (C : Option Addr) (cc : Nat), j2 ≤ j ∧ i = .int .i64 j2 ∧ out = .slice C (ls.take j2).flatten.length cc ∧ GOwn w1.heap.size wr C (ls.take j2).flatten.length cc (ls.take j2).flatten ∧ Below w1.heap.size w1 wr) (fun _ i _ => j - (intOf i).toNat)
   case atStart => exact ⟨0, C0, cc0, by omega, rfl, rfl, hown0.out, hb0.out⟩
   case round =>
    clear hown0 hb0
    revert wr
    intro W hrel
    obtain ⟨j2, C, cc, hj2, rfl, rfl, hown, hb⟩ := hrel
    by_cases hlt2 : j2 < j
    ·
     obtain ⟨l, hl⟩ : ∃ l, ls[j2]? = some l := ⟨_, List.getElem?_eq_getElem (by omega)⟩
     obtain ⟨hGl, A, c, hc, hgs⟩ := hG.out j2 l hl
     have hb1 := hle2.out (j2 + 1)
     rw [flat_take hl, List.length_append] at hb1
     obtain ⟨C2, cc2, w3, hrun, hcap, hown2, hgr, hat⟩ := append_sl elemG encG_len encG_one (ty := 42) (d := c) hown hb.size (SL.keep hgs hb) (by omega) (by omega)
     have hb2 := Lh (hb.grown hgr hb.size (fun k e => (own_row hown k e).1))
     have c0 := (hb.cell (p := ⟨G, j2, none⟩) hGl).trans hc
     have hne := flat_take hl
     have hgn : GOwn w1.heap.size w3 C2 (ls.take (j2 + 1)).flatten.length cc2 (ls.take (j2 + 1)).flatten := by rw [hne, List.length_append]; exact hown2
     have hln : (ls.take (j2 + 1)).flatten.length = (ls.take j2).flatten.length + l.length := by rw [hne, List.length_append]
     replace hgn := Lh hgn; replace hln := Lh hln; replace hl := Lh hl
     have j0 : (0 : Int) ≤ j2 := by omega
     have j1 : (j2 : Int) < (j : Int) := by omega
     have hbs := hb.size
     clear hown hown2 hgr hat hcap hb hc hgs hne
     generalize (ls.take j2).flatten.length = sm2 at *
     go_wp2_with (fail)
     exact ⟨⟨j2 + 1, C2, cc2, by omega, by go_num, by rw [hln.out], hgn.out, hb2.out⟩, by simp [intOf]; omega⟩
    ·
     obtain rfl : j2 = j := by omega
     rw [List.take_of_length_le (by omega)] at hown ⊢
     rw [← hsm.out] at hown ⊢
     replace hown := Lh hown; replace hb := Lh hb
     go_wp2_with (fail)
     go_ret
     exact ⟨C, cc, by rw [← hsm.out]; rfl, by rw [← hsm.out]; exact hown.out, hb.out⟩
end Go.Proofs.YtgnjnpddehdmcaaGreatDoor
