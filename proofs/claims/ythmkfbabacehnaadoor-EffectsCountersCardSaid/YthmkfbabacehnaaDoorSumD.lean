/- Sum and Held: the program's. -/
import Derived.Test.YthmkfbabacehnaaDoorPartsD
namespace Go.Proofs.YthmkfbabacehnaaDoor
open Go.RowKit Go.Shelf
set_option linter.unusedSimpArgs false
set_option linter.unusedVariables false
set_option linter.unusedSectionVars false
set_option maxRecDepth 10000
/-- What a table of signs holds. -/
structure Ld (g : Nat) (cs : Array Value) (w : World) : Prop where
  lt : g < w.heap.size
  c : ∀ (i : Nat) (u : Value), cs[i]? = some u → w.cell? ⟨g, i, none⟩ = some u
theorem Ld.keep {g : Nat} {cs : Array Value} {w w' : World} (h : Ld g cs w) (hb : Below w.heap.size w w') : Ld g cs w' :=
  ⟨Nat.lt_of_lt_of_le h.lt hb.size, fun i u hu => (hb.cell (p := ⟨g, i, none⟩) h.lt).trans (h.c i u hu)⟩
theorem Ld.keepB {g : Nat} {cs : Array Value} {w w' : World} (h : Ld g cs w) (hb : Below w.heap.size w w') : Ld g cs w' := h.keep hb
def LdA (w : World) : Prop := Ld 0 #[.int .i64 0, .int .i64 1, .int .i64 (-1), .int .i64 0] w
def LdH (w : World) : Prop := Ld 1 #[.int .i64 0, .int .i64 1, .int .i64 (-1), .int .i64 (-1)] w
theorem ld_var {P : Program} {w : World} {nm : String} {g : Nat} {cs : Array Value} (h : w.var? P nm = some cs) (hg : P.globalNamed nm = some g) : Ld g cs w := by
  unfold World.var? at h
  simp only [hg, Option.bind_some] at h
  have hlt : g < w.heap.size := by
    rcases Nat.lt_or_ge g w.heap.size with hlt | hge
    · exact hlt
    · rw [Array.getElem?_eq_none hge] at h; cases h
  refine ⟨hlt, fun i u hu => ?_⟩
  cases ho : w.heap[g]? with
  | none => rw [ho] at h; cases h
  | some o =>
    rw [ho] at h
    cases o <;> simp at h
    subst h
    simp [World.cell?, ho, hu]
theorem addS_in (p : Int) : addS p = 0 ∨ addS p = 1 ∨ addS p = -1 := by unfold addS; split <;> (try split) <;> simp
theorem holdS_in (p : Int) : holdS p = 0 ∨ holdS p = 1 ∨ holdS p = -1 := by unfold holdS; split <;> simp
theorem sumC_okV (a : List Int) : okV (sumC a).1 = true := by
  unfold sumC
  split
  · decide
  · split
    · split
      · assumption
      · decide
    · decide
theorem sumP_zero' {nm : ByteArray} {r dl : Int} {ss : List St} {l : List Ef} {key : ByteArray} (h : chkC nm r dl ss l = 0) : sumP nm r dl ss l key = sumC (partsL ss key addS 0 l) := by unfold sumP; rw [if_pos h]
theorem sumP_bad {nm : ByteArray} {r dl : Int} {ss : List St} {l : List Ef} {key : ByteArray} (h : ¬ chkC nm r dl ss l = 0) : sumP nm r dl ss l key = (0, chkC nm r dl ss l) := by unfold sumP; rw [if_neg h]
theorem heldP_bad {nm : ByteArray} {r dl : Int} {ss : List St} {l : List Ef} {key : ByteArray} (h : ¬ chkC nm r dl ss l = 0) : heldP nm r dl ss l key = (0, 0, chkC nm r dl ss l) := by unfold heldP; rw [if_neg h]
theorem heldP_ok {nm : ByteArray} {r dl : Int} {ss : List St} {l : List Ef} {key : ByteArray} (h : chkC nm r dl ss l = 0) (h1 : (sumC (partsL ss key holdS 1 l)).2 = 0) (h2 : (sumC (partsL ss key holdS (-1) l)).2 = 0) : heldP nm r dl ss l key = ((sumC (partsL ss key holdS 1 l)).1, -(sumC (partsL ss key holdS (-1) l)).1, 0) := by unfold heldP; rw [if_pos h, if_pos ⟨h1, h2⟩]
theorem heldP_over {nm : ByteArray} {r dl : Int} {ss : List St} {l : List Ef} {key : ByteArray} (h : chkC nm r dl ss l = 0) (h1 : ¬ ((sumC (partsL ss key holdS 1 l)).2 = 0 ∧ (sumC (partsL ss key holdS (-1) l)).2 = 0)) : heldP nm r dl ss l key = (0, 0, 7) := by unfold heldP; rw [if_pos h, if_neg h1]
set_option maxHeartbeats 4000000 in
theorem sum_any (nm : ByteArray) (r dl : Int) (A : Option Addr) (n c : Nat) (ss : List St) (B : Option Addr) (m d : Nat) (l : List Ef) (key : ByteArray) (w : World) (hnm : nm.size ≤ 140737488355328) (h : SS w A n ss) (hn : n ≤ 140737488355328) (hnc : n ≤ c) (hkeys : ∀ x ∈ ss, x.1.size ≤ 140737488355328) (hE : ES w B m l) (hm : m ≤ 100000) (hL : LdA w) :
    Calls Tryd.prog 8 #[.agg #[.string nm, .int .i64 r, .int .i64 dl, .slice A n c], .slice B m d, .string key] w fun e w' => e = .returned (.tuple #[.int .i64 (sumP nm r dl ss l key).1, .int .i64 (sumP nm r dl ss l key).2]) ∧ Below w.heap.size w w' := by
  have hl := hE.1
  have hsl := h.1
  have kb := (Below.refl w.heap.size w).alloc (Nat.le_refl _) (.cells #[.string nm, .int .i64 r, .int .i64 dl, .slice A n c] 24)
  have hnew := hpNew w (.cells #[.string nm, .int .i64 r, .int .i64 dl, .slice A n c] 24)
  have hC := chk_any nm r dl A n c ss B m d l (w.alloc (.cells #[.string nm, .int .i64 r, .int .i64 dl, .slice A n c] 24)) hnm (SL.keep h kb) hn hnc hkeys (SL.keep hE kb) (by omega)
  by_cases hz : chkC nm r dl ss l = 0
  · obtain ⟨z1, z2, z3⟩ := chk_zero hz
    rw [sumP_zero' hz]
    rw [hz] at hC
    rw [hsl] at z3
    have hP := fun (V : World) (hV : Below w.heap.size w V) => parts_any nm r dl A n c ss B m d l key addS 0 1 (-1) 0 0 V (SL.keep h hV) z1 hn (SL.keep hE hV) hm z3 rfl rfl rfl addS_in
    generalize partsL ss key addS 0 l = pl at *
    replace h := Lib.hid h; replace hE := Lib.hid hE; replace hl := Lib.hid hl; replace hsl := Lib.hid hsl; replace hkeys := Lib.hid hkeys; replace kb := Lib.hid kb; replace hnew := Lib.hid hnew; replace hL := Lib.hid hL; replace hz := Lib.hid hz; replace z1 := Lib.hid z1; replace z3 := Lib.hid z3; replace hP := Lib.hid hP
    go_enter Tryd.func8, Tryd.ntmps8
    go_wp2_with (fail)
    refine hC.mono ?_
    rintro e w1 ⟨rfl, b1⟩
    have hh1 := (b1.block _ (by simp)).trans hnew.out
    have g0 := blkC hh1 0
    have g1 := blkC hh1 1
    have g2 := blkC hh1 2
    have g3 := blkC hh1 3
    have hb1 := kb.out.trans (b1.mono kb.out.size)
    have hL1 := Ld.keep hL.out hb1
    have a0 := hL1.c 0 _ rfl
    have a1 := hL1.c 1 _ rfl
    have a2 := hL1.c 2 _ rfl
    have a3 := hL1.c 3 _ rfl
    have hp := hP.out w1 hb1
    simp only [List.getElem?_toArray, List.getElem?_cons_zero, List.getElem?_cons_succ] at g0 g1 g2 g3
    replace hh1 := Lib.hid hh1; replace hb1 := Lib.hid hb1; replace hL1 := Lib.hid hL1; replace hp := Lib.hid hp
    clear b1 hC
    go_wp2_with (fail)
    refine hp.out.mono ?_
    rintro e w2 ⟨A2, n2, c2, rfl, o2⟩
    have hs := sumN_any A2 n2 c2 pl w2 o2.ns
    have hb2 := Lib.hid (hb1.out.trans (o2.bel.mono hb1.out.size))
    clear o2 hp a0 a1 a2 a3 g0 g1 g2 g3
    go_wp2_with (fail)
    refine hs.mono ?_
    rintro e w3 ⟨rfl, b3⟩
    go_wp2_with (fail)
    refine bodyPost_ret (results_tmp2 rfl _ _ _) rfl ?_
    exact ⟨rfl, hb2.out.trans (b3.mono hb2.out.size)⟩
  · have hf := Lib.hid (sumP_bad (key := key) hz)
    have hzb : (chkC nm r dl ss l != 0) = true := by simp [hz]
    generalize chkC nm r dl ss l = q at *
    replace h := Lib.hid h; replace hE := Lib.hid hE; replace hl := Lib.hid hl; replace hsl := Lib.hid hsl; replace hkeys := Lib.hid hkeys; replace kb := Lib.hid kb; replace hnew := Lib.hid hnew; replace hL := Lib.hid hL; replace hz := Lib.hid hz
    go_enter Tryd.func8, Tryd.ntmps8
    go_wp2_with (fail)
    refine hC.mono ?_
    rintro e w1 ⟨rfl, b1⟩
    go_wp2_with (fail)
    refine bodyPost_ret (results_tmp2 rfl _ _ _) rfl ?_
    exact ⟨by rw [hf.out]; rfl, kb.out.trans (b1.mono kb.out.size)⟩
set_option maxHeartbeats 8000000 in
theorem held_any (nm : ByteArray) (r dl : Int) (A : Option Addr) (n c : Nat) (ss : List St) (B : Option Addr) (m d : Nat) (l : List Ef) (key : ByteArray) (w : World) (hnm : nm.size ≤ 140737488355328) (h : SS w A n ss) (hn : n ≤ 140737488355328) (hnc : n ≤ c) (hkeys : ∀ x ∈ ss, x.1.size ≤ 140737488355328) (hE : ES w B m l) (hm : m ≤ 100000) (hL : LdH w) :
    Calls Tryd.prog 10 #[.agg #[.string nm, .int .i64 r, .int .i64 dl, .slice A n c], .slice B m d, .string key] w fun e w' => e = .returned (.tuple #[.int .i64 (heldP nm r dl ss l key).1, .int .i64 (heldP nm r dl ss l key).2.1, .int .i64 (heldP nm r dl ss l key).2.2]) ∧ Below w.heap.size w w' := by
  have hl := hE.1
  have hsl := h.1
  have kb := (Below.refl w.heap.size w).alloc (Nat.le_refl _) (.cells #[.string nm, .int .i64 r, .int .i64 dl, .slice A n c] 24)
  have hnew := hpNew w (.cells #[.string nm, .int .i64 r, .int .i64 dl, .slice A n c] 24)
  have hC := chk_any nm r dl A n c ss B m d l (w.alloc (.cells #[.string nm, .int .i64 r, .int .i64 dl, .slice A n c] 24)) hnm (SL.keep h kb) hn hnc hkeys (SL.keep hE kb) (by omega)
  by_cases hz : chkC nm r dl ss l = 0
  · obtain ⟨z1, z2, z3⟩ := chk_zero hz
    have hgood := fun q1 q2 => heldP_ok (key := key) hz q1 q2
    have hover := fun q1 => heldP_over (key := key) hz q1
    rw [hz] at hC
    rw [hsl] at z3
    have hP := fun (V : World) (hV : Below w.heap.size w V) => parts_any nm r dl A n c ss B m d l key holdS 0 1 (-1) (-1) 1 V (SL.keep h hV) z1 hn (SL.keep hE hV) hm z3 rfl rfl rfl holdS_in
    have hP2 := fun (V : World) (hV : Below w.heap.size w V) => parts_any nm r dl A n c ss B m d l key holdS 0 1 (-1) (-1) (-1) V (SL.keep h hV) z1 hn (SL.keep hE hV) hm z3 rfl rfl rfl holdS_in
    generalize heldP nm r dl ss l key = hp3 at *
    generalize partsL ss key holdS 1 l = pl at *
    generalize partsL ss key holdS (-1) l = pm at *
    have hv := (okV_iff _).1 (sumC_okV pm)
    obtain ⟨hs1, hs2⟩ : (∀ V A n c, NS V A n pl → _) ∧ (∀ V A n c, NS V A n pm → _) := ⟨fun V A n c q => sumN_any A n c pl V q, fun V A n c q => sumN_any A n c pm V q⟩
    generalize (sumC pl).1 = s1 at *
    generalize (sumC pl).2 = e1 at *
    generalize (sumC pm).1 = s2 at *
    generalize (sumC pm).2 = e2 at *
    replace h := Lib.hid h; replace hE := Lib.hid hE; replace hl := Lib.hid hl; replace hsl := Lib.hid hsl; replace hkeys := Lib.hid hkeys; replace kb := Lib.hid kb; replace hnew := Lib.hid hnew; replace hL := Lib.hid hL; replace hz := Lib.hid hz; replace z1 := Lib.hid z1; replace z3 := Lib.hid z3; replace hP := Lib.hid hP; replace hP2 := Lib.hid hP2; replace hs1 := Lib.hid hs1; replace hs2 := Lib.hid hs2; replace hgood := Lib.hid hgood; replace hover := Lib.hid hover
    go_enter Tryd.func10, Tryd.ntmps10
    go_wp2_with (fail)
    refine hC.mono ?_
    rintro e w1 ⟨rfl, b1⟩
    have hh1 := (b1.block _ (by simp)).trans hnew.out
    have g0 := blkC hh1 0
    have g1 := blkC hh1 1
    have g2 := blkC hh1 2
    have g3 := blkC hh1 3
    have hb1 := kb.out.trans (b1.mono kb.out.size)
    have hL1 := Ld.keep hL.out hb1
    have a0 := hL1.c 0 _ rfl
    have a1 := hL1.c 1 _ rfl
    have a2 := hL1.c 2 _ rfl
    have a3 := hL1.c 3 _ rfl
    have hp := hP.out w1 hb1
    simp only [List.getElem?_toArray, List.getElem?_cons_zero, List.getElem?_cons_succ] at g0 g1 g2 g3
    replace hh1 := Lib.hid hh1; replace hb1 := Lib.hid hb1; replace hL1 := Lib.hid hL1; replace hp := Lib.hid hp
    clear b1 hC
    go_wp2_with (fail)
    refine hp.out.mono ?_
    rintro e w2 ⟨A2, n2, c2, rfl, o2⟩
    have hs := hs1.out w2 A2 n2 c2 o2.ns
    have hb2 := Lib.hid (hb1.out.trans (o2.bel.mono hb1.out.size))
    have hh2 := Lib.hid ((o2.bel.block _ (blkX hh1.out)).trans hh1.out)
    have hL2 := Lib.hid (Ld.keep hL1.out o2.bel)
    clear o2 hp a0 a1 a2 a3 g0 g1 g2 g3 hh1 hL1 hP
    go_wp2_with (fail)
    refine hs.mono ?_
    rintro e w3 ⟨rfl, b3⟩
    have hh3 := (b3.block _ (blkX hh2.out)).trans hh2.out
    have g0 := blkC hh3 0
    have g1 := blkC hh3 1
    have g2 := blkC hh3 2
    have g3 := blkC hh3 3
    have hb3 := hb2.out.trans (b3.mono hb2.out.size)
    have hL3 := Ld.keep hL2.out b3
    have a0 := hL3.c 0 _ rfl
    have a1 := hL3.c 1 _ rfl
    have a2 := hL3.c 2 _ rfl
    have a3 := hL3.c 3 _ rfl
    have hp := hP2.out w3 hb3
    simp only [List.getElem?_toArray, List.getElem?_cons_zero, List.getElem?_cons_succ] at g0 g1 g2 g3
    replace hh3 := Lib.hid hh3; replace hb3 := Lib.hid hb3; replace hL3 := Lib.hid hL3; replace hp := Lib.hid hp
    clear b3 hs
    go_wp2_with (fail)
    refine hp.out.mono ?_
    rintro e w4 ⟨A4, n4, c4, rfl, o4⟩
    have hs := hs2.out w4 A4 n4 c4 o4.ns
    have hb4 := Lib.hid (hb3.out.trans (o4.bel.mono hb3.out.size))
    clear o4 hp a0 a1 a2 a3 g0 g1 g2 g3 hh3 hL3
    by_cases q1 : e1 = 0
    · by_cases q2 : e2 = 0
      · have hf := Lib.hid (hgood.out q1 q2)
        have q1b : (e1 != 0) = false := by simp [q1]
        have q2b : (e2 != 0) = false := by simp [q2]
        replace q1 := Lib.hid q1; replace q2 := Lib.hid q2
        go_wp2_with (fail)
        refine hs.mono ?_
        rintro e w5 ⟨rfl, b5⟩
        go_wp2_with (fail)
        go_ret3
        exact ⟨by rw [hf.out]; rfl, hb4.out.trans (b5.mono hb4.out.size)⟩
      · have hf := Lib.hid (hover.out (fun q => q2 q.2))
        have q1b : (e1 != 0) = false := by simp [q1]
        have q2b : (e2 != 0) = true := by simp [q2]
        replace q1 := Lib.hid q1; replace q2 := Lib.hid q2
        go_wp2_with (fail)
        refine hs.mono ?_
        rintro e w5 ⟨rfl, b5⟩
        go_wp2_with (fail)
        go_ret3
        exact ⟨by rw [hf.out]; rfl, hb4.out.trans (b5.mono hb4.out.size)⟩
    · have hf := Lib.hid (hover.out (fun q => q1 q.1))
      have q1b : (e1 != 0) = true := by simp [q1]
      replace q1 := Lib.hid q1
      go_wp2_with (fail)
      refine hs.mono ?_
      rintro e w5 ⟨rfl, b5⟩
      go_wp2_with (fail)
      go_ret3
      exact ⟨by rw [hf.out]; rfl, hb4.out.trans (b5.mono hb4.out.size)⟩
  · have hf := Lib.hid (heldP_bad (key := key) hz)
    have hzb : (chkC nm r dl ss l != 0) = true := by simp [hz]
    generalize chkC nm r dl ss l = q at *
    replace h := Lib.hid h; replace hE := Lib.hid hE; replace hl := Lib.hid hl; replace hsl := Lib.hid hsl; replace hkeys := Lib.hid hkeys; replace kb := Lib.hid kb; replace hnew := Lib.hid hnew; replace hL := Lib.hid hL; replace hz := Lib.hid hz
    go_enter Tryd.func10, Tryd.ntmps10
    go_wp2_with (fail)
    refine hC.mono ?_
    rintro e w1 ⟨rfl, b1⟩
    go_wp2_with (fail)
    go_ret3
    exact ⟨by rw [hf.out]; rfl, kb.out.trans (b1.mono kb.out.size)⟩
end Go.Proofs.YthmkfbabacehnaaDoor
