/- slices.Insert of one entry. -/
import Derived.Test.YtgnjnpddehdmcaaGreatDoorRange
import Derived.Deep.QuietTactic
import Derived.BigQuiet
import Derived.Deep.RegionHeld3
import Derived.Laws.Externs
namespace Go.Proofs.YtgnjnpddehdmcaaGreatDoor
open Go.RowKit Go.Shelf
set_option linter.unusedSimpArgs false
set_option linter.unusedVariables false
set_option linter.unusedSectionVars false
set_option maxRecDepth 10000
def Ins (W : World) (base : Nat) (A : Option Addr) (n : Nat) (l' : List En) (v : Value) (w' : World) : Prop :=
 ∃ A' c', v = .slice A' (n + 1) c' ∧ w'.ownsRow base 125 7 (.slice A' (n + 1) c') (n + 1) (flat encP l') ∧ W.grownBy w' (rowOf A) ∧ (rowOf A' = rowOf A ∨ ∃ g, rowOf A' = some g ∧ W.heap.size ≤ g)
attribute [-go_sem] sliced
attribute [local go_sem ↓] hideAppend hideCopy
set_option maxHeartbeats 4000000 in
theorem ins_end {W : World} {base : Nat} {A : Option Addr} {n c : Nat} {l : List En} {vb : Nat} {x : En} (hown : W.ownsRow base 125 7 (.slice A n c) n (flat encP l)) (hl : l.length = n) (hb : base ≤ W.heap.size) (hn : n ≤ 1000000) (hv : PS W (some ⟨vb, 0, none⟩) 1 [x]) :
  Calls Tryz.prog 169 #[.slice A n c, .int .i64 n, .slice (some ⟨vb, 0, none⟩) 1 1] W fun e w' => ∃ v, e = .returned v ∧ Ins W base A n (l ++ [x]) v w' := by
 obtain ⟨A', c', w1, hrun, hcap, hown', hgr, hat⟩ := append_sl elemP encP_len encP_one (ty := 151) (d := 1) hown hb hv (by omega) (by omega)
 obtain ⟨_, _, _, hnc⟩ := own_shape hown
 have hfin : Ins W base A n (l ++ [x]) (.slice A' (n + 1) c') w1 := ⟨A', c', rfl, hown', hgr, hat.imp id fun q => ⟨_, q, Nat.le_refl _⟩⟩
 have n0 : (0 : Int) ≤ n := by omega
 have hs := hown
 replace hfin := Lh hfin; replace hown' := Lh hown'; replace hgr := Lh hgr; replace hat := Lh hat; replace hown := Lh hown; replace hs := Lh hs; replace hl := Lh hl; replace hv := Lh hv
 go_enter Tryz.func169, Tryz.ntmps169
 go_wp2_with (fail)
 go_ret
 exact ⟨_, rfl, hfin.out⟩
theorem overlaps_no (W : World) (vb g o1 o2 n c m d : Nat) (cs ds : Array Value) (T1 T2 : TypeId) (h1 : W.heap[vb]? = some (.cells cs T1 (0, 0))) (h2 : W.heap[g]? = some (.cells ds T2 (0, 0))) (hd : ds.size ≠ 0) (hne : vb ≠ g) :
  (callFunc 234 #[.slice (some ⟨vb, o1, none⟩) n c, .slice (some ⟨g, o2, none⟩) m d]).run Tryz.prog W = .ok (.value (.bool false)) W := by
 rw [run_callFunc_extern Tryz.func234 (by kernel_rfl) (by kernel_rfl) (by kernel_rfl) (e := Extern.SlicesOverlaps.overlaps #[151, 151] #[4]) (by kernel_rfl),
  Lib.run_overlaps_apart W 151 4 125 Tryz.underlying151 7 Tryz.sizeOf125 ⟨vb, o1, none⟩ ⟨g, o2, none⟩ n c m d hne T1 T2 cs.size ds.size (by simp [World.shape?, h1]) (by simp [World.shape?, h2]) hd (blkF h1 _) (blkF h1 _)]
 rfl
theorem ins_eq (l : List En) (i : Nat) (x : En) (hi : i ≤ l.length) : flat encP (l.take i ++ x :: l.drop i) = flat encP (l.take i) ++ encP x ++ flat encP (l.drop i) := by
 rw [flat_app, show x :: l.drop i = [x] ++ l.drop i from rfl, flat_app]
 simp [flat]
set_option maxHeartbeats 8000000 in
theorem ins_room {W : World} {base g n c i : Nat} {l : List En} {vb : Nat} {x : En} {vcs : Array Value} {T1 : TypeId} (hown : W.ownsRow base 125 7 (.slice (some ⟨g, 0, none⟩) n c) n (flat encP l)) (hl : l.length = n) (hn : n ≤ 1000000) (hi : i < n) (hroom : n + 1 ≤ c)
  (hv : PS W (some ⟨vb, 0, none⟩) 1 [x]) (hvb : W.heap[vb]? = some (.cells vcs T1 (0, 0))) (hne : vb ≠ g) :
  Calls Tryz.prog 169 #[.slice (some ⟨g, 0, none⟩) n c, .int .i64 i, .slice (some ⟨vb, 0, none⟩) 1 1] W fun e w' => ∃ v, e = .returned v ∧ Ins W base (some ⟨g, 0, none⟩) n (l.take i ++ x :: l.drop i) v w' := by
 have hS := SL.of_own (k := 7) encP_len hown hl
 rcases hown.2 with ⟨e0, _⟩ | ⟨g', cap, cur, e0, hbg, hg, hnc, hm, hsz, htk⟩
 ·
  cases e0
 injection e0 with e1 _ e2
 injection e1 with e1
 injection e1 with e1
 subst e1 e2
 obtain ⟨fc1, fc2⟩ := flat_cut (enc := encP) (k := 7) encP_len l i (by omega)
 have hF1 : (flat encP (l.take i)).length = i * 7 := by rw [flat_length encP_len, List.length_take]; congr 1; omega
 have hF2 : (flat encP (l.drop i)).length = (n - i) * 7 := by rw [flat_length encP_len, List.length_drop, hl]
 have hcur : cur.toList = flat encP (l.take i) ++ flat encP (l.drop i) ++ cur.toList.drop (n * 7) := by
  rw [← fc1, ← fc2, List.take_append_drop, ← htk, List.take_append_drop]
 have hov := overlaps_no W vb g 0 ((i + 1) * 7) 1 1 (n - i) (c - (i + 1)) vcs cur T1 _ hvb hg (by rw [hsz]; omega) hne
 have hsl1 : sliced (some ⟨g, 0, none⟩) 0 (n + 1) c 7 = .slice (some ⟨g, 0, none⟩) (n + 1) c := sliced_low _ _ _ _ (fun a e => by injection e with e; rw [← e])
 have hsl2 := sliced_at0 g (i + 1) (n + 1) c 7 (by omega)
 rw [show n + 1 - (i + 1) = n - i from by omega] at hsl2
 have hsl3 := sliced_at0 g i (n + 1) c 7 (by omega)
 have hc1 := copy_cells (ty := 3) elemP (W := W.drew) (g := g) (o := (i + 1) * 7) (dLen := n - i) (dCap := c - (i + 1)) (sLen := n + 1 - i) (sCap := c - i) (a := ⟨g, i * 7, none⟩) (cs := flat encP (l.drop i)) (T := 125) hg (by rw [hF2]; congr 1; simp only [Nat.min_def]; split <;> omega) (fun j v hj => by
   rw [Addr.add_lit]
   have hj2 : (flat encP l)[i * 7 + j]? = some v := by rw [← List.getElem?_drop, fc2]; exact hj
   have := SL.addCells encP_len (by omega) hS _ _ hj2
   rw [Addr.add_lit] at this
   rw [show i * 7 + j = 0 + (i * 7 + j) from by omega]
   exact this) (by rw [hF2, hsz]; omega) (fun v hv => flat_one encP_one _ v hv)
 rw [show Nat.min (n + 1 - i) (n - i) = n - i from by simp only [Nat.min_def]; split <;> omega] at hc1
 obtain ⟨W1, hW1⟩ : ∃ W1, W1 = W.drew.setRow g (cur.toList.take ((i + 1) * 7) ++ flat encP (l.drop i) ++ cur.toList.drop ((i + 1) * 7 + (flat encP (l.drop i)).length)).toArray := ⟨_, rfl⟩
 have hg1 : W1.heap[g]? = some (.cells (cur.toList.take ((i + 1) * 7) ++ flat encP (l.drop i) ++ cur.toList.drop ((i + 1) * 7 + (flat encP (l.drop i)).length)).toArray 125 (0, 0)) := by rw [hW1]; exact setRow_heap W.drew g _ _ _ _ hg
 rw [← hW1] at hc1
 have hv1 : ∀ j u, (encP x)[j]? = some u → W1.cell? ((⟨vb, 0, none⟩ : Addr).add j) = some u := fun j u hu => by
  have h1 := SL.addCells encP_len (by omega) hv j u (by simpa [flat] using hu)
  rw [Addr.add_lit] at h1 ⊢
  refine (World.cell?_of_block (w := W) (a := ⟨vb, 0 + j, none⟩) ?_).trans h1
  rw [hW1]
  exact setRow_other W.drew g vb _ hne
 have hsz1 : (cur.toList.take ((i + 1) * 7) ++ flat encP (l.drop i) ++ cur.toList.drop ((i + 1) * 7 + (flat encP (l.drop i)).length)).toArray.size = c * 7 := by
  simp only [List.size_toArray, List.length_append, List.length_take, List.length_drop, Array.length_toList, hsz, hF2]; omega
 have hc2 := copy_cells (ty := 3) elemP (W := W1) (g := g) (o := i * 7) (dLen := n + 1 - i) (dCap := c - i) (sLen := 1) (sCap := 1) (a := ⟨vb, 0, none⟩) (cs := encP x) hg1 (by rw [encP_len]; simp only [Nat.min_def]; split <;> omega) hv1 (by rw [encP_len, hsz1]; omega) (encP_one x)
 rw [show Nat.min 1 (n + 1 - i) = 1 from by simp only [Nat.min_def]; split <;> omega] at hc2
 have hup := up_list (flat encP (l.take i)) (flat encP (l.drop i)) (cur.toList.drop (n * 7)) (encP x) (i * 7) 7 ((n - i) * 7) hF1 (encP_len x) hF2 (by omega)
 rw [← hcur] at hup
 obtain ⟨W2, hW2⟩ : ∃ W2, W2 = W1.setRow g ((cur.toList.take ((i + 1) * 7) ++ flat encP (l.drop i) ++ cur.toList.drop ((i + 1) * 7 + (flat encP (l.drop i)).length)).toArray.toList.take (i * 7) ++ encP x ++ (cur.toList.take ((i + 1) * 7) ++ flat encP (l.drop i) ++ cur.toList.drop ((i + 1) * 7 + (flat encP (l.drop i)).length)).toArray.toList.drop (i * 7 + (encP x).length)).toArray := ⟨_, rfl⟩
 rw [← hW2] at hc2
 have hfin : Ins W base (some ⟨g, 0, none⟩) n (l.take i ++ x :: l.drop i) (.slice (some ⟨g, 0, none⟩) (n + 1) c) W2 := by
  rw [hW2]
  refine ⟨_, _, rfl, own_mk hbg (setRow_heap W1 g _ _ _ _ hg1) hroom hm ?_ ?_ ?_, ?_, .inl rfl⟩
  ·
   simp only [List.size_toArray, List.length_append, List.length_take, List.length_drop, Array.length_toList, hsz, hF2, encP_len]; omega
  ·
   rw [flat_length encP_len]; congr 1; simp; omega
  ·
   have e1 : (i + 1) * 7 = i * 7 + 7 := by omega
   simp only [encP_len, hF2, e1]
   rw [hup, ins_eq l i x (by omega), List.take_append_of_le_length (by simp only [List.length_append, hF1, hF2, encP_len]; omega), List.take_of_length_le (by simp only [List.length_append, hF1, hF2, encP_len]; omega)]
  ·
   refine ⟨by rw [hW1]; rfl, by rw [hW1]; rfl, by rw [hW1]; rfl, by rw [hW1]; simp, fun k hk hne2 => ?_⟩
   have hkg : k ≠ g := fun e => hne2 (by rw [e]; rfl)
   rw [setRow_other _ _ _ _ hkg, hW1, setRow_other _ _ _ _ hkg]
   rfl
 have hni : ((i : Int) == (n : Int)) = false := beq_false_of_ne (by omega)
 have i0 : (0 : Int) ≤ i := by omega
 have i1 : (i : Int) ≤ n := by omega
 have i2 : (n : Int) + 1 ≤ c := by omega
 have i3 : ¬ (c : Int) < (n : Int) + 1 := by omega
 have i4 : (i : Int) + 1 ≤ (n : Int) + 1 := by omega
 have i5 : ((n : Int) + 1).toNat = n + 1 := by omega
 have i6 : ((i : Int) + 1).toNat = i + 1 := by omega
 have i7 : (n : Int) ≤ c := by omega
 have hw : IntKind.i64.wrap ((i : Int) + 1) = (i : Int) + 1 := by rw [IntKind.wrap_i64]; omega
 have i8 : (i : Int) ≤ (n : Int) + 1 := by omega
 have i9 : (0 : Int) ≤ (i : Int) + 1 := by omega
 replace hW2 := Lh hW2; replace hfin := Lh hfin; replace hc2 := Lh hc2; replace hown := Lh hown; replace hS := Lh hS; replace hg := Lh hg; replace htk := Lh htk; replace hsz := Lh hsz; replace fc1 := Lh fc1; replace fc2 := Lh fc2; replace hF1 := Lh hF1; replace hF2 := Lh hF2; replace hcur := Lh hcur; replace hW1 := Lh hW1; replace hg1 := Lh hg1; replace hv1 := Lh hv1; replace hsz1 := Lh hsz1; replace hup := Lh hup; replace hv := Lh hv; replace hvb := Lh hvb; replace hl := Lh hl
 go_enter Tryz.func169, Tryz.ntmps169
 go_wp2_with (simp only [hov])
 refine wp_region_any (by kernel_rfl) ?_
 try (change wpAny _ _ _ _ _ _ _ (World.drew _))
 refine ta 0 ?_
 refine ta 1 ?_
 refine ta 2 ?_
 refine ta 3 ?_
 refine ta 4 ?_
 refine ta 5 ?_
 refine ta 6 ?_
 refine ta 7 ?_
 refine wpAny_ready (rs := [8]) (by kernel_rfl) (by simp) ?_
 refine AllReady.cons rfl (fun K hK => ?_) ?_
 ·
  have hK' := hK; clear hK; have hK := hK'; clear hK'
  go_simp
  refine hK _ _ ?_
  clear hK K
  refine wpAny_done (by kernel_rfl) ?_ _
  replace hc2 := hc2.out
  go_wp2_with (fail)
  go_ret
  exact ⟨_, rfl, hfin.out⟩
 exact AllReady.nil
set_option maxHeartbeats 8000000 in
theorem ins_grow {W : World} {base g n c i : Nat} {l : List En} {vb : Nat} {x : En} (hown : W.ownsRow base 125 7 (.slice (some ⟨g, 0, none⟩) n c) n (flat encP l)) (hl : l.length = n) (hb : base ≤ W.heap.size) (hn : n ≤ 1000000) (hi : i < n) (hroom : c < n + 1)
  (hv : PS W (some ⟨vb, 0, none⟩) 1 [x]) (hvb : vb < W.heap.size) :
  Calls Tryz.prog 169 #[.slice (some ⟨g, 0, none⟩) n c, .int .i64 i, .slice (some ⟨vb, 0, none⟩) 1 1] W fun e w' => ∃ v, e = .returned v ∧ Ins W base (some ⟨g, 0, none⟩) n (l.take i ++ x :: l.drop i) v w' := by
 have hS := SL.of_own (k := 7) encP_len hown hl
 obtain ⟨_, hgl⟩ := own_row hown g rfl
 obtain ⟨A0, c0, e0, hnc⟩ := own_shape hown
 injection e0 with e1 _ e2
 subst e1 e2
 obtain ⟨fc1, fc2⟩ := flat_cut (enc := encP) (k := 7) encP_len l i (by omega)
 have hF1 : (flat encP (l.take i)).length = i * 7 := by rw [flat_length encP_len, List.length_take]; congr 1; omega
 have hF2 : (flat encP (l.drop i)).length = (n - i) * 7 := by rw [flat_length encP_len, List.length_drop, hl]
 obtain ⟨hu, ⟨i0, z, hi0, hz0, hz1, hz2, hzc⟩, hp⟩ := elemP
 have hold : (Builtin.firstCells i0.size i (.slice (some ⟨g, 0, none⟩) i c)).run Tryz.prog W.drew = .ok (flat encP (l.take i)).toArray W.drew := by
  rw [hz1]
  refine run_firstCells_some W.drew 7 i ⟨g, 0, none⟩ i c _ (by rw [hF1]) (fun j v hj => ?_)
  rw [← fc1, List.getElem?_take] at hj
  split at hj
  ·
   exact SL.addCells encP_len (by omega) hS _ _ hj
  ·
   cases hj
 have hr1 := Lib.run_append_grow_zeros (P := Tryz.prog) W 151 3 151 125 i0 z .i64 .i64 hu Tryz.underlying3 hi0 hz0 (some ⟨g, 0, none⟩) i c _ hold (n + 1 - i) (by omega) (by omega) (by omega) (by omega) (by rw [hz2]; omega) (by rw [hz2]; exact growslice_fits (by omega) (by omega))
 have hcast : ((n + 1 - i : Nat) : Int) = (n : Int) + 1 - i := by omega
 have hadd : i + (n + 1 - i) = n + 1 := by omega
 rw [hcast, hadd] at hr1
 have hcge := grownCap_ge W (n + 1) c 125
 have hcm := grownCap_le_maxLen W (n + 1) c 125 (by unfold maxLen; omega)
 generalize grownCap W (n + 1) c 125 = c2 at *
 obtain ⟨Z, hZ⟩ : ∃ Z : Array Value, Z = Builtin.zeroCells z.cells (n + 1 - i) ++ Builtin.zeroCells z.cells (c2 - (n + 1)) := ⟨_, rfl⟩
 have hZs : Z.size = (n + 1 - i) * 7 + (c2 - (n + 1)) * 7 := by rw [hZ, Array.size_append, size_zeroCells, size_zeroCells, hzc]
 rw [Array.append_assoc, ← hZ] at hr1
 obtain ⟨W2, hW2⟩ : ∃ W2, W2 = W.drew.alloc (.cells ((flat encP (l.take i)).toArray ++ Z) 125) := ⟨_, rfl⟩
 rw [← hW2] at hr1
 have hg2 : W2.heap[W.heap.size]? = some (.cells ((flat encP (l.take i)).toArray ++ Z) 125 (0, 0)) := by rw [hW2]; exact hpNew W.drew _
 have hbW2 : Below W.heap.size W W2 := by rw [hW2]; exact ((Below.refl W.heap.size W).drew).alloc (Nat.le_refl _) _
 obtain ⟨g2, hgg⟩ : ∃ g2, g2 = W.heap.size := ⟨_, rfl⟩
 rw [← hgg] at hg2 hr1
 have hsl1 : sliced (some ⟨g, 0, none⟩) 0 i c 7 = .slice (some ⟨g, 0, none⟩) i c := sliced_low _ _ _ _ (fun a e => by injection e with e; rw [← e])
 have hsl2 := sliced_at0 g2 i (n + 1) c2 7 (by omega)
 have hsl3 := sliced_at0 g2 (i + 1) (n + 1) c2 7 (by omega)
 rw [show n + 1 - (i + 1) = n - i from by omega] at hsl3
 have hsl4 := sliced_at0 g i n c 7 (by omega)
 have hv2 : ∀ j u, (encP x)[j]? = some u → W2.cell? ((⟨vb, 0, none⟩ : Addr).add j) = some u := fun j u hu => by
  have h1 := SL.addCells encP_len (by omega) hv j u (by simpa [flat] using hu)
  rw [Addr.add_lit] at h1 ⊢
  exact (hbW2.cell (p := ⟨vb, 0 + j, none⟩) hvb).trans h1
 have hszF : ((flat encP (l.take i)).toArray ++ Z).size = c2 * 7 := by rw [Array.size_append, hZs, List.size_toArray, hF1]; omega
 have hc1 := copy_cells (ty := 3) elemP (W := W2) (g := g2) (o := i * 7) (dLen := n + 1 - i) (dCap := c2 - i) (sLen := 1) (sCap := 1) (a := ⟨vb, 0, none⟩) (cs := encP x) hg2 (by rw [encP_len]; simp only [Nat.min_def]; split <;> omega) hv2 (by rw [encP_len, hszF]; omega) (encP_one x)
 rw [show Nat.min 1 (n + 1 - i) = 1 from by simp only [Nat.min_def]; split <;> omega] at hc1
 obtain ⟨L1, hL1⟩ : ∃ L1, L1 = ((flat encP (l.take i)).toArray ++ Z).toList.take (i * 7) ++ encP x ++ ((flat encP (l.take i)).toArray ++ Z).toList.drop (i * 7 + (encP x).length) := ⟨_, rfl⟩
 rw [← hL1] at hc1
 have hL1s : L1.toArray.size = c2 * 7 := by
  rw [hL1]
  simp only [List.size_toArray, List.length_append, List.length_take, List.length_drop, Array.length_toList, hszF, encP_len]; omega
 obtain ⟨W3, hW3⟩ : ∃ W3, W3 = W2.setRow g2 L1.toArray := ⟨_, rfl⟩
 have hg3 : W3.heap[g2]? = some (.cells L1.toArray 125 (0, 0)) := by rw [hW3]; exact setRow_heap W2 g2 _ _ _ _ hg2
 rw [← hW3] at hc1
 have hb3 : Below W.heap.size W W3 := ⟨by rw [hW3]; exact hbW2.os, by rw [hW3]; exact hbW2.tape, by rw [hW3]; exact hbW2.output, by rw [hW3, setRow_size]; exact hbW2.size, fun k hk => by
  rw [hW3, setRow_other _ _ _ _ (by omega)]; exact hbW2.block k hk⟩
 have hc2 := copy_cells (ty := 3) elemP (W := W3.drew) (g := g2) (o := (i + 1) * 7) (dLen := n - i) (dCap := c2 - (i + 1)) (sLen := n - i) (sCap := c - i) (a := ⟨g, i * 7, none⟩) (cs := flat encP (l.drop i)) (T := 125) hg3 (by rw [hF2, show Nat.min (n - i) (n - i) = n - i from Nat.min_self _]) (fun j v hj => by
   rw [Addr.add_lit]
   have hj2 : (flat encP l)[i * 7 + j]? = some v := by rw [← List.getElem?_drop, fc2]; exact hj
   have := SL.addCells encP_len (by omega) hS _ _ hj2
   rw [Addr.add_lit] at this
   refine (hb3.cell (p := ⟨g, i * 7 + j, none⟩) hgl).trans ?_
   rw [show i * 7 + j = 0 + (i * 7 + j) from by omega]
   exact this) (by rw [hF2, hL1s]; omega) (fun v hv => flat_one encP_one _ v hv)
 rw [show Nat.min (n - i) (n - i) = n - i from Nat.min_self _] at hc2
 obtain ⟨W4, hW4⟩ : ∃ W4, W4 = W3.drew.setRow g2 (L1.toArray.toList.take ((i + 1) * 7) ++ flat encP (l.drop i) ++ L1.toArray.toList.drop ((i + 1) * 7 + (flat encP (l.drop i)).length)).toArray := ⟨_, rfl⟩
 rw [← hW4] at hc2
 have hnl := new_list (flat encP (l.take i)) (flat encP (l.drop i)) Z.toList (encP x) (i * 7) 7 ((n - i) * 7) hF1 (encP_len x) hF2
 have hfin : Ins W base (some ⟨g, 0, none⟩) n (l.take i ++ x :: l.drop i) (.slice (some ⟨g2, 0, none⟩) (n + 1) c2) W4 := by
  rw [hW4]
  refine ⟨_, _, rfl, own_mk (by omega) (setRow_heap W3.drew g2 _ _ _ _ hg3) hcge hcm ?_ ?_ ?_, ?_, .inr ⟨g2, rfl, by omega⟩⟩
  ·
   simp only [List.size_toArray, List.length_append, List.length_take, List.length_drop, Array.length_toList, hL1s, hF2]
   rw [List.size_toArray] at hL1s; omega
  ·
   rw [flat_length encP_len]; congr 1; simp; omega
  ·
   have e1 : (i + 1) * 7 = i * 7 + 7 := by omega
   have e2 : ((flat encP (l.take i)).toArray ++ Z).toList = flat encP (l.take i) ++ Z.toList := by simp
   rw [e2, encP_len] at hL1
   simp only [hF2, e1]
   rw [hL1, hnl, ins_eq l i x (by omega), List.take_append_of_le_length (by simp only [List.length_append, hF1, hF2, encP_len]; omega), List.take_of_length_le (by simp only [List.length_append, hF1, hF2, encP_len]; omega)]
  ·
   refine ⟨hb3.os, hb3.tape, hb3.output, by rw [setRow_size]; exact hb3.size, fun k hk hne2 => ?_⟩
   rw [setRow_other _ _ _ _ (by omega)]
   exact hb3.block k hk
 have hni : ((i : Int) == (n : Int)) = false := beq_false_of_ne (by omega)
 have i0' : (0 : Int) ≤ i := by omega
 have i1 : (i : Int) ≤ n := by omega
 have i2 : (c : Int) < (n : Int) + 1 := by omega
 have i3 : (n : Int) + 1 ≤ c2 := by omega
 have i4 : (i : Int) + 1 ≤ (n : Int) + 1 := by omega
 have i6 : ((i : Int) + 1).toNat = i + 1 := by omega
 have i7 : (n : Int) ≤ c := by omega
 have hw : IntKind.i64.wrap ((i : Int) + 1) = (i : Int) + 1 := by rw [IntKind.wrap_i64]; omega
 have i8 : (i : Int) ≤ (n : Int) + 1 := by omega
 have i9 : (0 : Int) ≤ (i : Int) + 1 := by omega
 have i10 : (i : Int) ≤ c := by omega
 replace hr1 : (appSem #[151, 3] 151 #[.slice (some ⟨g, 0, none⟩) i c, .int .i64 ((n : Int) + 1 - i)]).run Tryz.prog W = .ok (.slice (some ⟨g2, 0, none⟩) (n + 1) c2) W2 := hr1
 replace hW4 := Lh hW4; replace hfin := Lh hfin; replace hc2 := Lh hc2; replace hown := Lh hown; replace hS := Lh hS; replace fc1 := Lh fc1; replace fc2 := Lh fc2; replace hF1 := Lh hF1; replace hF2 := Lh hF2; replace hold := Lh hold; replace hu := Lh hu; replace hi0 := Lh hi0; replace hz0 := Lh hz0; replace hz1 := Lh hz1; replace hz2 := Lh hz2; replace hzc := Lh hzc; replace hZ := Lh hZ; replace hZs := Lh hZs; replace hW2 := Lh hW2; replace hg2 := Lh hg2; replace hbW2 := Lh hbW2; replace hv2 := Lh hv2; replace hszF := Lh hszF; replace hL1 := Lh hL1; replace hL1s := Lh hL1s; replace hW3 := Lh hW3; replace hg3 := Lh hg3; replace hb3 := Lh hb3; replace hnl := Lh hnl; replace hv := Lh hv; replace hl := Lh hl; replace hgg := Lh hgg; replace hcast := Lh hcast; replace hadd := Lh hadd
 go_enter Tryz.func169, Tryz.ntmps169
 go_wp2_with (fail)
 replace hc2 := hc2.out
 refine wp_region_any (by kernel_rfl) ?_
 try (change wpAny _ _ _ _ _ _ _ (World.drew _))
 refine ta 0 ?_
 refine ta 1 ?_
 refine ta 2 ?_
 refine ta 3 ?_
 refine ta 4 ?_
 refine ta 5 ?_
 refine ta 6 ?_
 refine ta 7 ?_
 refine wpAny_ready (rs := [8]) (by kernel_rfl) (by simp) ?_
 refine AllReady.cons rfl (fun K hK => ?_) ?_
 ·
  have hK' := hK; clear hK; have hK := hK'; clear hK'
  go_simp
  refine hK _ _ ?_
  clear hK K
  refine wpAny_done (by kernel_rfl) ?_ _
  go_wp2_with (fail)
  go_ret
  exact ⟨_, rfl, hfin.out⟩
 exact AllReady.nil
end Go.Proofs.YtgnjnpddehdmcaaGreatDoor
