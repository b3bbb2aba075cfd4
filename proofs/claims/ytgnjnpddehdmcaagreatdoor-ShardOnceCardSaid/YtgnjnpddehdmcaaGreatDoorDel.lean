/- slices.DeleteFunc at Take's closure. -/
import Derived.Test.YtgnjnpddehdmcaaGreatDoorGet
namespace Go.Proofs.YtgnjnpddehdmcaaGreatDoor
open Go.RowKit Go.Shelf
set_option linter.unusedSimpArgs false
set_option linter.unusedVariables false
set_option linter.unusedSectionVars false
set_option maxRecDepth 10000
theorem DelSets {w W : World} {A : Option Addr} {R O : Nat} {a b : ByteArray} {L : List Ef} {g : Nat} {cur : Array Value} (h : DelS w A R O a b L W) (hA : rowOf A = some g) (hg : W.heap[g]? = some (.cells cur 125 (0, 0))) (o : Nat) (x : En) : DelS w A R O a b L ((((((((W).setCell ⟨g, o, none⟩ (.int .i64 x.r.1)).setCell ⟨g, o + 1, none⟩ (.int .i64 x.r.2.1)).setCell ⟨g, o + 2, none⟩ (.string x.r.2.2)).setCell ⟨g, o + 3, none⟩ (.int .i64 x.e.1)).setCell ⟨g, o + 4, none⟩ (.int .i64 x.e.2.1)).setCell ⟨g, o + 5, none⟩ (.int .i64 x.e.2.2)).setCell ⟨g, o + 6, none⟩ (.string x.k)) := by
 have k0 := h.set hA hg (o := o) (v := (.int .i64 x.r.1))
 have g0 := hpSet (i := o) (v := (.int .i64 x.r.1)) hg
 have k1 := k0.set hA g0 (o := o + 1) (v := (.int .i64 x.r.2.1))
 have g1 := hpSet (i := o + 1) (v := (.int .i64 x.r.2.1)) g0
 have k2 := k1.set hA g1 (o := o + 2) (v := (.string x.r.2.2))
 have g2 := hpSet (i := o + 2) (v := (.string x.r.2.2)) g1
 have k3 := k2.set hA g2 (o := o + 3) (v := (.int .i64 x.e.1))
 have g3 := hpSet (i := o + 3) (v := (.int .i64 x.e.1)) g2
 have k4 := k3.set hA g3 (o := o + 4) (v := (.int .i64 x.e.2.1))
 have g4 := hpSet (i := o + 4) (v := (.int .i64 x.e.2.1)) g3
 have k5 := k4.set hA g4 (o := o + 5) (v := (.int .i64 x.e.2.2))
 have g5 := hpSet (i := o + 5) (v := (.int .i64 x.e.2.2)) g4
 exact k5.set hA g5 (o := o + 6) (v := (.string x.k))
attribute [local go_sem ↓] hideClear
attribute [-go_sem] sliced
def Deleted (w : World) (base : Nat) (A : Option Addr) (c : Nat) (l : List En) (R O : Nat) (a b : ByteArray) (L : List Ef) (e : Ending) (w' : World) : Prop :=
 e = .returned (.slice A (l.filter fun x => !inG (a, b) x.k).length c) ∧ w'.ownsRow base 125 7 (.slice A (l.filter fun x => !inG (a, b) x.k).length c) (l.filter fun x => !inG (a, b) x.k).length (flat encP (l.filter fun x => !inG (a, b) x.k)) ∧ DelS w A R O a b (L ++ (l.filter fun x => inG (a, b) x.k).map En.e) w'
theorem DelS.row {w W : World} {A : Option Addr} {R O : Nat} {a b : ByteArray} {L : List Ef} {g : Nat} {cur : Array Value} {cs : Array Value} (h : DelS w A R O a b L W) (hA : rowOf A = some g) (hg : W.heap[g]? = some (.cells cur 125 (0, 0))) : DelS w A R O a b L (W.setRow g cs) := by
 obtain ⟨h1, h2, B, m, d, h3⟩ := h
 have hR : R ≠ g := fun q => by rw [q, hg] at h2; injection h2 with h2; injection h2 with _ h2; exact absurd h2 (by decide)
 refine ⟨⟨h1.os, h1.tape, h1.output, by rw [setRow_size]; exact h1.size, fun k hk hn => ?_⟩, (setRow_other _ _ _ _ hR).trans h2, B, m, d, h3.keep (by rw [setRow_size]; exact Nat.le_refl _) fun k hk q => setRow_other _ _ _ _ ?_⟩
 ·
  rw [setRow_other _ _ _ _ (fun e => hn (by rw [e]; exact hA))]
  exact h1.block k hk hn
 ·
  intro hkg
  subst hkg
  rcases q with q | q
  ·
   have := h3.blk
   rw [← q, hg] at this; injection this with this; injection this with _ this; exact absurd this (by decide)
  ·
   exact h3.rowNe hg (by decide) q
set_option maxHeartbeats 16000000 in
theorem delete_any {w W : World} {A : Option Addr} {R O : Nat} {a b : ByteArray} {L : List Ef} {base n c : Nat} {l : List En} (h : DelS w A R O a b L W) (hown : W.ownsRow base 125 7 (.slice A n c) n (flat encP l)) (hl : l.length = n) (hn : n ≤ 5000) (hm : L.length ≤ 100) (hok : okG (a, b) = true) (hkl : ∀ x ∈ l, nameB x.k = true ∧ x.k.size ≤ 140737488355328) (ha : a.size ≤ 140737488355328) (hbs : b.size ≤ 140737488355328) :
  Calls Tryz.prog 173 #[.slice A n c, .func (.func 174) #[] #[.pointer (some ⟨R, 0, none⟩), .pointer (some ⟨O, 0, none⟩)]] W (Deleted w base A c l R O a b L) := by
 have hi := index_any h hown hl (by omega) (by omega) hok hkl ha hbs
 replace h := Lh h; replace hown := Lh hown; replace hok := Lh hok; replace hkl := Lh hkl; replace hl := Lh hl
 go_enter Tryz.func173, Tryz.ntmps173
 go_wp2_with (fail)
 refine hi.mono ?_
 rintro e w1 ⟨ho1, (⟨rfl, hno, hS⟩ | ⟨i, x, rfl, hx, hin, hno, hS⟩)⟩
 ·
  have e1 : (l.filter fun x => !inG (a, b) x.k) = l := List.filter_eq_self.2 (fun x hx => by rw [hno x hx]; rfl)
  have e2 : (l.filter fun x => inG (a, b) x.k) = [] := List.filter_eq_nil_iff.2 (fun x hx => by rw [hno x hx]; simp)
  have hfin : Deleted w base A c l R O a b L (.returned (.slice A n c)) w1 := by
   unfold Deleted
   rw [e1, e2, hl.out]
   exact ⟨rfl, ho1, by simpa using hS⟩
  replace hfin := Lh hfin; replace ho1 := Lh ho1; replace hno := Lh hno; replace hS := Lh hS; replace e1 := Lh e1; replace e2 := Lh e2
  go_wp2_with (fail)
  go_ret
  exact hfin.out
 ·
  have hil : i < n := by have := (List.getElem?_eq_some_iff.1 hx).1; have := hl.out; omega
  obtain ⟨g, cur, rfl, hge, hg, hnc, hmx, hsz, htk⟩ : ∃ g cur, A = some ⟨g, 0, none⟩ ∧ base ≤ g ∧ w1.heap[g]? = some (.cells cur 125 (0, 0)) ∧ n ≤ c ∧ c ≤ maxLen ∧ cur.size = c * 7 ∧ cur.toList.take (n * 7) = flat encP l := by
   rcases ho1.2 with ⟨e, _⟩ | ⟨g, cap, cur, e, q1, q2, q3, q4, q5, q6⟩
   ·
    injection e with _ e; omega
   ·
    injection e with e1 _ e3
    subst e3
    exact ⟨g, cur, e1, q1, q2, q3, q4, q5, q6⟩
  have hP : Part a b g c l i (i + 1) cur w1 := by
   have hl' := hl.out
   have ef : (l.take i).filter (fun x => !inG (a, b) x.k) = l.take i := List.filter_eq_self.2 (fun y hy => by rw [hno y hy]; rfl)
   have ey := (filt_yes hx hin).1
   rw [ef] at ey
   obtain ⟨f1, f2⟩ := flat_cut (enc := encP) (k := 7) encP_len l i (by omega)
   obtain ⟨f3, f4⟩ := flat_cut (enc := encP) (k := 7) encP_len l (i + 1) (by omega)
   refine ⟨hg, hsz, by omega, by rw [ey, List.length_take]; omega, ?_, ?_⟩
   ·
    rw [ey, ← f1, ← htk, List.take_take, Nat.min_eq_left (by omega)]
   ·
    rw [← f4, ← htk, List.drop_take, hl', show n * 7 - (i + 1) * 7 = (n - (i + 1)) * 7 from by omega]
  have hS' : DelS w (some ⟨g, 0, none⟩) R O a b (L ++ ((l.take (i + 1)).filter fun x => inG (a, b) x.k).map En.e) w1 := by
   have ez := (filt_yes hx hin).2
   have ee : (l.take i).filter (fun x => inG (a, b) x.k) = [] := List.filter_eq_nil_iff.2 (fun y hy => by rw [hno y hy]; simp)
   rw [ez, ee]
   exact hS
  have hni : ((i : Int) == -1) = false := beq_false_of_ne (by omega)
  have i0 : (0 : Int) ≤ i := by omega
  have i1 : (i : Int) < n := by omega
  replace ho1 := Lh ho1; replace hS := Lh hS; replace hno := Lh hno; replace hx := Lh hx; replace hin := Lh hin; replace hg := Lh hg; replace htk := Lh htk; replace hsz := Lh hsz; replace hP := Lh hP; replace hS' := Lh hS'
  clear hi
  go_wp2_with (fail)
  go_loopw [5, 6] (fun v5 v6 wr => ∃ (i j : Nat) (cur : Array Value), v5 = .int .i64 i ∧ v6 = .int .i64 j ∧ i < j ∧ j ≤ n ∧ Part a b g c l i j cur wr ∧ DelS w (some ⟨g, 0, none⟩) R O a b (L ++ ((l.take j).filter fun x => inG (a, b) x.k).map En.e) wr) (fun _ v6 _ => n - (intOf v6).toNat)
  case atStart => exact ⟨i, i + 1, cur, rfl, by go_num, by omega, by omega, hP.out, hS'.out⟩
  case round =>
   clear hni i0 i1
   revert wr
   intro W1 hrel
   obtain ⟨i', j, cur', rfl, rfl, hij, hj, hP1, hS1⟩ := hrel
   by_cases hlt : j < n
   ·
    obtain ⟨x', hx'⟩ : ∃ x', l[j]? = some x' := ⟨_, List.getElem?_eq_getElem (by have := hl.out; omega)⟩
    obtain ⟨hk1, hk2⟩ := hkl.out x' (List.mem_of_getElem? hx')
    have hp := hP1.at_ hx'
    have p0 := hp 0 _ rfl; have p1 := hp 1 _ rfl; have p2 := hp 2 _ rfl; have p3 := hp 3 _ rfl; have p4 := hp 4 _ rfl; have p5 := hp 5 _ rfl; have p6 := hp 6 _ rfl
    rw [Nat.add_zero] at p0
    have hLL : (L ++ ((l.take j).filter fun x => inG (a, b) x.k).map En.e).length ≤ 99999 := by
     have h1 := List.length_filter_le (fun x : En => inG (a, b) x.k) (l.take j)
     rw [List.length_append, List.length_map]
     rw [List.length_take] at h1
     omega
    have kb := (Below.refl W1.heap.size W1).alloc (Nat.le_refl _) (.cells #[.int .i64 x'.r.1, .int .i64 x'.r.2.1, .string x'.r.2.2, .int .i64 x'.e.1, .int .i64 x'.e.2.1, .int .i64 x'.e.2.2, .string x'.k] 125)
    have hgl : g < W1.heap.size := blkX hP1.blk
    have hnew := hpNew W1 (.cells #[.int .i64 x'.r.1, .int .i64 x'.r.2.1, .string x'.r.2.2, .int .i64 x'.e.1, .int .i64 x'.e.2.1, .int .i64 x'.e.2.2, .string x'.k] 125)
    have hP2 := hP1.keep (kb.block g hgl)
    have hc := (hS1.below kb).took x' hLL hok.out hk1 ha hbs hk2
    have j0 : (0 : Int) ≤ j := by omega
    have j1 : (j : Int) < n := by omega
    have q0 : (0 : Int) ≤ i' := by omega
    have q1 : (i' : Int) < n := by omega
    have hlc := hP1.cap
    have hsz1 := hP1.size
    have hl' := hl.out
    cases hin' : inG (a, b) x'.k with
    | true =>
     rw [hin'] at hc
     have hPn := fun (V : World) (q : V.heap[g]? = some (.cells cur' 125 (0, 0))) => (hP1.keep (q.trans hP1.blk.symm)).skip hx' hin'
     have hLn : L ++ ((l.take j).filter fun x => inG (a, b) x.k).map En.e ++ [x'.e] = L ++ ((l.take (j + 1)).filter fun x => inG (a, b) x.k).map En.e := by rw [(filt_yes hx' hin').2, List.map_append, List.append_assoc]; rfl
     replace hLn := Lh hLn; replace hPn := Lh hPn; replace hP1 := Lh hP1; replace hP2 := Lh hP2; replace hS1 := Lh hS1; replace hx' := Lh hx'; replace hin' := Lh hin'; replace hnew := Lh hnew; replace hLL := Lh hLL; replace hsz1 := Lh hsz1; replace hl' := Lh hl'; replace kb := Lh kb
     clear hp
     go_wp2_with (fail)
     refine hc.mono ?_
     rintro e w2 ⟨rfl, s2, hty, hss⟩
     have hg2 := Lh (hty _ _ _ hP2.out.blk)
     rw [if_pos rfl, hLn.out] at s2
     replace s2 := Lh s2; replace hty := Lh hty
     clear hc p0 p1 p2 p3 p4 p5 p6
     go_wp2_with (fail)
     exact ⟨⟨i', j + 1, cur', rfl, by go_num, by omega, by omega, hPn.out _ hg2.out, s2.out⟩, by simp [intOf]; omega⟩
    | false =>
     rw [hin'] at hc
     have hPn := fun (V : World) (q : V.heap[g]? = some (.cells cur' 125 (0, 0))) => (hP1.keep (q.trans hP1.blk.symm)).put hx' hin' (by omega)
     have hLn : L ++ ((l.take j).filter fun x => inG (a, b) x.k).map En.e = L ++ ((l.take (j + 1)).filter fun x => inG (a, b) x.k).map En.e := by rw [(filt_no hx' hin').2]
     have hcs : ∀ t, t < 7 → ∃ u, cur'[i' * 7 + t]? = some u := fun t ht => ⟨_, Array.getElem?_eq_getElem (by omega)⟩
     replace hLn := Lh hLn; replace hPn := Lh hPn; replace hP1 := Lh hP1; replace hP2 := Lh hP2; replace hS1 := Lh hS1; replace hx' := Lh hx'; replace hin' := Lh hin'; replace hnew := Lh hnew; replace hLL := Lh hLL; replace hsz1 := Lh hsz1; replace hl' := Lh hl'; replace kb := Lh kb
     clear hp
     go_wp2_with (fail)
     refine hc.mono ?_
     rintro e w2 ⟨rfl, s2, hty, hss⟩
     have hg2 := hty _ _ _ hP2.out.blk
     have hn2 := hty _ _ _ hnew.out
     have y0 := blkC hn2 0; have y1 := blkC hn2 1; have y2 := blkC hn2 2; have y3 := blkC hn2 3; have y4 := blkC hn2 4; have y5 := blkC hn2 5; have y6 := blkC hn2 6
     simp only [List.getElem?_toArray, List.getElem?_cons_zero, List.getElem?_cons_succ] at y0 y1 y2 y3 y4 y5 y6
     obtain ⟨u0, v0⟩ := hcs 0 (by omega); obtain ⟨u1, v1⟩ := hcs 1 (by omega); obtain ⟨u2, v2⟩ := hcs 2 (by omega); obtain ⟨u3, v3⟩ := hcs 3 (by omega); obtain ⟨u4, v4⟩ := hcs 4 (by omega); obtain ⟨u5, v5⟩ := hcs 5 (by omega); obtain ⟨u6, v6⟩ := hcs 6 (by omega)
     rw [← blkC hg2] at v0 v1 v2 v3 v4 v5 v6
     rw [Nat.add_zero] at v0
     have vf := blkF hg2
     obtain ⟨cur2, hPf⟩ := hPn.out _ hg2
     have s3 := DelSets s2 rfl hg2 (i' * 7) x'
     rw [if_neg (by simp), hLn.out] at s3
     replace s2 := Lh s2; replace s3 := Lh s3; replace hty := Lh hty; replace hPf := Lh hPf; replace hg2 := Lh hg2; replace hn2 := Lh hn2
     clear hc p0 p1 p2 p3 p4 p5 p6 hcs
     go_wp2_with (fail)
     exact ⟨⟨i' + 1, j + 1, cur2, by go_num, by go_num, by omega, by omega, hPf.out, s3.out⟩, by simp [intOf]; omega⟩
   ·
    obtain rfl : j = n := by omega
    have hl' := hl.out
    have hlen := hP1.len
    have hlo := hP1.lo
    have hsz1 := hP1.size
    have hblk := hP1.blk
    rw [List.take_of_length_le (l := l) (i := j) (by omega)] at hS1 hlen hlo
    have hsl1 := sliced_at0 g i' j c 7 (by omega)
    have hsl2 : sliced (some ⟨g, 0, none⟩) 0 i' c 7 = .slice (some ⟨g, 0, none⟩) i' c := sliced_low _ _ _ _ (fun a e => by injection e with e; rw [← e])
    obtain ⟨Z, hZ, hcl⟩ := clear_cells (P := Tryz.prog) (t := 151) (ty := 0) (e := 125) (W := W1) (g := g) (c := c - i') (n := j - i') (o := i' * 7) (k := 7) (T := 125) Tryz.underlying151 Tryz.zeroValue125 rfl (by intro u hu; simp [Value.cells] at hu; rcases hu with rfl | rfl | rfl | rfl <;> rfl) (by omega) (by omega) hblk (by rw [hsz1]; omega)
    obtain ⟨cs, hcs⟩ : ∃ cs, cs = (cur'.toList.take (i' * 7) ++ Z ++ cur'.toList.drop (i' * 7 + Z.length)).toArray := ⟨_, rfl⟩
    rw [← hcs] at hcl
    have hcl' : ∀ W2, W2 = W1.setRow g cs → (clearSem #[151] 0 #[.slice (some ⟨g, i' * 7, none⟩) (j - i') (c - i')]).run Tryz.prog W1 = .ok (.tuple #[]) W2 := fun W2 e => by rw [e]; exact hcl
    have hcll : cur'.toList.length = c * 7 := by rw [Array.length_toList (xs := cur')]; exact hsz1
    have htl : (cur'.toList.take (i' * 7)).length = i' * 7 := by rw [List.length_take]; omega
    have hfin : Deleted w base (some ⟨g, 0, none⟩) c l R O a b L (.returned (.slice (some ⟨g, 0, none⟩) i' c)) (W1.setRow g cs) := by
     refine ⟨by rw [hlen], ?_, hS1.row rfl hblk⟩
     rw [hlen]
     refine own_mk hge (setRow_heap W1 g _ _ _ _ hblk) (by omega) hmx ?_ ?_ ?_
     ·
      rw [hcs, List.size_toArray, List.length_append, List.length_append, htl, hZ, List.length_drop, hcll]; omega
     ·
      rw [flat_length encP_len, hlen]
     ·
      rw [hcs, List.toList_toArray, List.append_assoc, List.take_append, htl, Nat.sub_self, List.take_zero, List.append_nil, List.take_of_length_le (by omega), hlo]
    obtain ⟨W2, hW2⟩ : ∃ W2, W2 = W1.setRow g cs := ⟨_, rfl⟩
    have hr := hcl' W2 hW2
    rw [← hW2] at hfin
    have i0 : (0 : Int) ≤ i' := by omega
    have i1 : (i' : Int) ≤ c := by omega
    have i2 : (i' : Int) ≤ j := by omega
    have i3 : ¬ ((j : Int) < j) := by omega
    replace hfin := Lh hfin; replace hW2 := Lh hW2; replace hS1 := Lh hS1; replace hlo := Lh hlo; replace hlen := Lh hlen; replace hsz1 := Lh hsz1; replace hblk := Lh hblk; replace hP1 := Lh hP1; replace hcs := Lh hcs; replace hcll := Lh hcll; replace htl := Lh htl; replace hZ := Lh hZ; replace hl' := Lh hl'; replace hcl := Lh hcl
    clear hcl'
    go_wp2_with (fail)
    go_ret
    exact hfin.out
end Go.Proofs.YtgnjnpddehdmcaaGreatDoor
