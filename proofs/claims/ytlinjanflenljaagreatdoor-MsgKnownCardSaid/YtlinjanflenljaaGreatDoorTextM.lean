/- What Text makes of a message. -/
import Derived.Test.YtlinjanflenljaaGreatDoorTxL
import Derived.Test.YtlinjanflenljaaGreatDoorEnc
import Derived.OrdersHeld
import Derived.Deep.RegionHeld
namespace Go.Proofs.YtlinjanflenljaaGreatDoor
open Go.RowKit
set_option linter.unusedSimpArgs false
set_option linter.unusedVariables false
set_option linter.unusedSectionVars false
set_option maxRecDepth 10000
theorem tx_any (m : Mg) (A : Option Addr) (c : Nat) (w : World) (hL : Ldr w) (hE : ES w A m.l.length m.l) (h0 : encE m = 0) (j : Nat) (hj : j < 5) (hu : fUse j m.k = true) :
    Calls Tryz.prog (fnTx j) #[.agg #[.int .i64 m.k, .int .i64 m.fr, .int .i64 m.tt, .int .i64 m.ro, .int .i64 m.no, .int .i64 m.sl, .int .i64 m.nu, .string (sOf m.v), .slice A m.l.length c]] w fun e w' => e = .returned (.string (sOf (fText j m))) ∧ Below w.heap.size w w' := by
  obtain ⟨harg, hnl, -⟩ := encE_ok h0
  have hf := fit_of harg hnl
  have hg := good_all harg hj
  unfold fGood at hg
  rw [if_pos hu] at hg
  have : j = 0 ∨ j = 1 ∨ j = 2 ∨ j = 3 ∨ j = 4 := by omega
  rcases this with rfl | rfl | rfl | rfl | rfl
  · exact tx0_any m A c w hL (by simp only [fOk, goodB_vld, Bool.and_eq_true] at hg; exact hg.1)
  · exact tx1_any m A c w hL hf.s
  · exact tx2_any m A c w hL hf.n
  · exact tx3_any m A c w hL hf.v
  · refine tx4_any m A c w hL hE hf.ln fun e he => ?_
    obtain ⟨q, hq⟩ := okL_mem hg e he
    have hfe := hf.l e he
    simp only [okEnt, goodB_vld, Bool.and_eq_true, decide_eq_true_eq] at hq
    exact ⟨by omega, hq.2.1, hfe.2.2.2⟩
theorem fText_len {m : Mg} (h0 : encE m = 0) (j : Nat) (hj : j < 5) (hu : fUse j m.k = true) : (fText j m).length ≤ 1000000 := by
  obtain ⟨harg, hnl, -⟩ := encE_ok h0
  have hf := fit_of harg hnl
  have hg := good_all harg hj
  unfold fGood at hg
  rw [if_pos hu] at hg
  have : j = 0 ∨ j = 1 ∨ j = 2 ∨ j = 3 ∨ j = 4 := by omega
  rcases this with rfl | rfl | rfl | rfl | rfl
  · have := (txt_len (r := m.ro) (n := m.no) (by simp only [fOk, goodB_vld, Bool.and_eq_true] at hg; exact hg.1)).1
    simp only [fText]; omega
  · have := dec_len20 m.sl.toNat (by have := hf.s; omega)
    simp only [fText]; omega
  · have := dec_len20 m.nu.toNat (by have := hf.n; omega)
    simp only [fText]; omega
  · have := some_len m.v hf.v
    simp only [fText]; omega
  · have := join_len (l := m.l) fun e he => by
      obtain ⟨q, hq⟩ := okL_mem hg e he
      have hfe := hf.l e he
      simp only [okEnt, goodB_vld, Bool.and_eq_true, decide_eq_true_eq] at hq
      exact ⟨by omega, hq.2.1, hfe.2.2.2⟩
    have h2 := hf.ln
    simp only [fText]; omega
theorem useBit_16 (j : Nat) (hj : j < 5) : (useBit j == 16) = decide (j = 4) := by
  have : j = 0 ∨ j = 1 ∨ j = 2 ∨ j = 3 ∨ j = 4 := by omega
  rcases this with rfl | rfl | rfl | rfl | rfl <;> rfl
theorem fIn_use {j : Nat} {m : Mg} (h : fIn j m = true) : fUse j m.k = true := by
  simp only [fIn, Bool.and_eq_true] at h; exact h.1
theorem join_to_len {m : Mg} (h0 : encE m = 0) : ∀ j, j ≤ 5 → (Lib.join (textsTo m j) [32]).length ≤ 100 + 1000001 * j
  | 0, _ => by
    obtain ⟨harg, hnl, -⟩ := encE_ok h0
    have hd := (argOK_parts harg).1
    simp only [headOK, decide_eq_true_eq] at hd
    have a := dec_len20 m.fr.toNat (by omega)
    have b := dec_len20 m.tt.toNat (by omega)
    have d : (wordM m.k).length ≤ 10 := by
      have : ∀ k < 12, (wordL.getD k []).length ≤ 10 := by decide
      exact this m.k.toNat (by omega)
    show (Lib.join [_, _] [32]).length ≤ _
    rw [Lib.join_cons]
    simp only [Lib.joinTail, List.map_cons, List.map_nil, List.flatten_cons, List.flatten_nil, List.length_append, List.length_cons, List.length_nil]
    omega
  | j + 1, hj => by
    have h1 := join_to_len h0 j (by omega)
    rw [texts_step, List.length_append]
    split
    · rename_i hi
      have := fText_len h0 j (by omega) (fIn_use hi)
      simp only [List.length_cons]; omega
    · simp; omega
theorem texts_len (m : Mg) : ∀ j, (textsTo m j).length ≤ 2 + j
  | 0 => by simp [textsTo]
  | j + 1 => by
    have := texts_len m j
    simp only [textsTo, List.length_append]
    split <;> simp <;> omega
/-- A row of texts, and blocks that stay. -/
structure TB (w : World) (ks : List Kp) (xs : List ByteArray) (A : Option Addr) (n c : Nat) (W : World) : Prop where
  lt : LT w xs A n c W
  ks : ∀ x ∈ ks, W.heap[x.1]? = some (.cells x.2.1 x.2.2 (0, 0)) ∧ x.2.2 ≠ 9
section
variable {w W W' : World} {ks : List Kp} {xs : List ByteArray} {A : Option Addr} {n c : Nat}
theorem TB.keep (h : TB w ks xs A n c W) (hb : Below W.heap.size W W') : TB w ks xs A n c W' := ⟨h.lt.keep hb, fun x hx => ⟨(hb.block _ (blkX (h.ks x hx).1)).trans (h.ks x hx).1, (h.ks x hx).2⟩⟩
theorem TB.new (h : TB w ks xs A n c W) (cs : Array Value) (t : TypeId) (ht : t ≠ 9) : TB w ((W.heap.size, cs, t) :: ks) xs A n c (W.alloc (.cells cs t)) := by
  have h2 := h.keep ((Below.refl _ W).alloc (Nat.le_refl _) (.cells cs t))
  refine ⟨h2.lt, fun x hx => ?_⟩
  rcases List.mem_cons.1 hx with rfl | hx
  · exact ⟨hpNew W _, ht⟩
  · exact h2.ks x hx
theorem TB.drop {x : Kp} (h : TB w (x :: ks) xs A n c W) : TB w ks xs A n c W := ⟨h.lt, fun y hy => h.ks y (List.mem_cons_of_mem _ hy)⟩
theorem row_ne {A : Option Addr} {E : Nat} {cs : Array Value} {t : TypeId} {L : List Value} {B : Nat} (h : W.ownsRow B 9 1 (.slice A n c) n L) (hE : W.heap[E]? = some (.cells cs t (0, 0))) (ht : t ≠ 9) : ¬ some E = rowOf A := fun e => by
  rcases h.2 with ⟨e2, _⟩ | ⟨k, cp, cur, e2, _, hh, _⟩
  · injection e2 with e2; subst e2; cases e
  · injection e2 with e2
    subst e2
    injection e with e
    have e : E = k := e
    subst e
    rw [hE] at hh
    injection hh with hh
    injection hh with _ ht2
    exact ht ht2
theorem TB.app {R : ByteArray} {A' : Option Addr} {c' : Nat} (h : TB w ks xs A n c W) (ho : W'.ownsRow w.heap.size 9 1 (.slice A' (n + 1) c') (n + 1) (flat encS (xs ++ [R]))) (hg : W.grownBy W' (rowOf A)) : TB w ks (xs ++ [R]) A' (n + 1) c' W' :=
  ⟨h.lt.app ho hg, fun x hx => ⟨(hg.block _ (blkX (h.ks x hx).1) (row_ne h.lt.own (h.ks x hx).1 (h.ks x hx).2)).trans (h.ks x hx).1, (h.ks x hx).2⟩⟩
theorem KB.row {ks : List Kp} (h : KB w ks W) (T2 WD : ByteArray) (hk : ∀ x ∈ ks, x.2.2 ≠ 9) : TB w ks [T2, WD] (some ⟨W.heap.size, 0, none⟩) 2 2 (W.alloc (.cells #[.string T2, .string WD] 9)) := by
  have h2 := h.keep ((Below.refl _ W).alloc (Nat.le_refl _) (.cells #[.string T2, .string WD] 9))
  exact ⟨⟨h2.bel, ⟨by simp [flat, encS], .inr ⟨W.heap.size, 2, #[.string T2, .string WD], rfl, h.bel.size, heap_alloc_new W _, by simp, by unfold maxLen; omega, by simp, by simp [flat, encS]⟩⟩, rfl⟩, fun x hx => ⟨h2.ks x hx, hk x hx⟩⟩
end

attribute [-go_sem] run_string_add_if
attribute [local go_sem ↓] hideAppend
set_option maxHeartbeats 16000000 in
theorem textm_any (m : Mg) (A : Option Addr) (c : Nat) (w : World) (hL : Ldr w) (hE : ES w A m.l.length m.l) (hn : m.l.length ≤ 70368744177664) : Calls Tryz.prog 20 #[.agg #[.int .i64 m.k, .int .i64 m.fr, .int .i64 m.tt, .int .i64 m.ro, .int .i64 m.no, .int .i64 m.sl, .int .i64 m.nu, .string (sOf m.v), .slice A m.l.length c]] w fun e w' => e = .returned (.tuple #[.string (sOf (txtM m)), .int .i64 (encE m)]) ∧ Below w.heap.size w w' := by
  have kb := (Below.refl _ w).alloc (Nat.le_refl _) (.cells #[.int .i64 m.k, .int .i64 m.fr, .int .i64 m.tt, .int .i64 m.ro, .int .i64 m.no, .int .i64 m.sl, .int .i64 m.nu, .string (sOf m.v), .slice A m.l.length c] 28)
  have hck := check_m m A c _ (hL.keep kb) (SL.keep hE kb) hn
  by_cases h0 : encE m = 0
  · rw [h0] at hck
    have htxt : txtM m = textM m := by unfold txtM; rw [if_pos h0]
    have hk := (argOK_parts (encE_ok h0).1).1
    simp only [headOK, decide_eq_true_eq] at hk
    obtain ⟨d1, d2, d3, d4, d5, d6, -⟩ := hk
    obtain ⟨i, hi⟩ : ∃ i : Nat, m.k = (i : Int) := ⟨m.k.toNat, by omega⟩
    obtain ⟨a0, a1, a2, a3, a4⟩ := kinds_at i (by omega)
    rw [← hi] at a0 a1 a2 a3 a4
    have hc1 := fun W hW => itoa_any m.fr d3 (by omega) W hW
    have hc2 := fun W hW => itoa_any m.tt d5 (by omega) W hW
    obtain ⟨S1, hS1⟩ : ∃ S, S = sOf (Lib.decDigits m.fr.toNat) := ⟨_, rfl⟩
    rw [show (⟨(Lib.decDigits m.fr.toNat).toArray⟩ : ByteArray) = S1 from hS1.symm] at hc1
    obtain ⟨S2, hS2⟩ : ∃ S, S = sOf (Lib.decDigits m.tt.toNat) := ⟨_, rfl⟩
    rw [show (⟨(Lib.decDigits m.tt.toNat).toArray⟩ : ByteArray) = S2 from hS2.symm] at hc2
    obtain ⟨T1, hT1⟩ : ∃ S, S = sOf (Lib.decDigits m.fr.toNat ++ [62]) := ⟨_, rfl⟩
    obtain ⟨T2, hT2⟩ : ∃ S, S = sOf (Lib.decDigits m.fr.toNat ++ 62 :: Lib.decDigits m.tt.toNat) := ⟨_, rfl⟩
    obtain ⟨WD, hWD⟩ : ∃ S, S = sOf (wordM m.k) := ⟨_, rfl⟩
    have q1 := dec_len20 m.fr.toNat (by omega)
    have q2 := dec_len20 m.tt.toNat (by omega)
    have b1 := add_run (T := ⟨#[62]⟩) hS1 rfl hT1 (by simp; omega)
    have b2 := add_run hT1 hS2 (hT2.trans (by simp)) (by simp; omega)
    have hstart : (textsTo m 0).map sOf = [T2, WD] := by rw [hT2, hWD]; rfl
    rw [← hWD] at a0
    have hl1 : (i : Int) < 12 := by omega
    have hl0 : (0 : Int) ≤ i := by omega
    have hl3 : i < 12 := by omega
    replace hi := Lib.hid hi; replace hS1 := Lib.hid hS1; replace hS2 := Lib.hid hS2; replace hT1 := Lib.hid hT1; replace hT2 := Lib.hid hT2; replace hWD := Lib.hid hWD; replace htxt := Lib.hid htxt; replace h0 := Lib.hid h0; replace hE := Lib.hid hE; replace kb := Lib.hid kb; replace hL := Lib.hid hL; replace hstart := Lib.hid hstart; replace hn := Lib.hid hn
    clear d1 d2 d3 d4 d5 d6 q1 q2
    go_enter Tryz.func20, Tryz.ntmps20
    go_wp2_with (fail)
    refine hck.mono ?_
    rintro e w1 ⟨rfl, bb⟩
    have hM := (bb.block w.heap.size (by simp)).trans (hpNew w _)
    have z0 : w1.cell? ⟨w.heap.size, 0, none⟩ = some (.int .i64 i) := (blkC hM 0).trans (by rw [← hi.out]; rfl)
    have hb1 := kb.out.trans (bb.mono kb.out.size)
    have hL1 := hL.out.keep hb1
    have c0 := (hL1.kind (i * 5)).trans a0
    have c1 := (hL1.kind (i * 5 + 1)).trans a1
    have c2 := (hL1.kind (i * 5 + 2)).trans a2
    have c3 := (hL1.kind (i * 5 + 3)).trans a3
    have c4 := (hL1.kind (i * 5 + 4)).trans a4
    have lg : 0 < w1.heap.size := cell_lt c0
    have hB0 : KB w [(w1.heap.size, #[.string WD, .int .i64 (usesM m.k), .int .i64 (kSl m.k), .int .i64 (kLo m.k), .int .i64 (kHi m.k)], 55), (w.heap.size, #[.int .i64 m.k, .int .i64 m.fr, .int .i64 m.tt, .int .i64 m.ro, .int .i64 m.no, .int .i64 m.sl, .int .i64 m.nu, .string (sOf m.v), .slice A m.l.length c], 28)] (w1.alloc (.cells #[.string WD, .int .i64 (usesM m.k), .int .i64 (kSl m.k), .int .i64 (kLo m.k), .int .i64 (kHi m.k)] 55)).drew :=
      KB.keep (KB.new ⟨hb1, fun x hx => by rw [List.mem_singleton] at hx; subst hx; exact hM⟩ _ _) (Below.refl _ _).drew
    obtain ⟨k1, hk1⟩ : ∃ k1, k1 = w1.heap.size := ⟨_, rfl⟩
    obtain ⟨W0, hW0⟩ : ∃ W0, W0 = w1.alloc (.cells #[.string WD, .int .i64 (usesM m.k), .int .i64 (kSl m.k), .int .i64 (kLo m.k), .int .i64 (kHi m.k)] 55) := ⟨_, rfl⟩
    rw [← hk1, ← hW0] at hB0
    have hS : ∀ W' : World, KB w [(k1, #[.string WD, .int .i64 (usesM m.k), .int .i64 (kSl m.k), .int .i64 (kLo m.k), .int .i64 (kHi m.k)], 55), (w.heap.size, #[.int .i64 m.k, .int .i64 m.fr, .int .i64 m.tt, .int .i64 m.ro, .int .i64 m.no, .int .i64 m.sl, .int .i64 m.nu, .string (sOf m.v), .slice A m.l.length c], 28)] W' → (W'.cell? ⟨w.heap.size, 1, none⟩ = some (.int .i64 m.fr) ∧ W'.cell? ⟨w.heap.size, 2, none⟩ = some (.int .i64 m.tt) ∧ W'.cell? ⟨k1, 0, none⟩ = some (.string WD)) := fun W' h =>
      ⟨blkC (h.ks _ (List.mem_cons_of_mem _ (List.mem_cons_self ..))) 1, blkC (h.ks _ (List.mem_cons_of_mem _ (List.mem_cons_self ..))) 2, blkC (h.ks _ (List.mem_cons_self ..)) 0⟩
    have hB := Lib.hid hB0
    replace hS := Lib.hid hS
    clear hM hb1 hL1 bb hB0 a0 a1 a2 a3 a4
    go_wp2_with (fail)
    rw [← hk1, ← hW0]
    clear hk1 hW0
    refine wp_region_held_drew (S := (fun W' => W'.cell? ⟨w.heap.size, 1, none⟩ = some (.int .i64 m.fr) ∧ W'.cell? ⟨w.heap.size, 2, none⟩ = some (.int .i64 m.tt) ∧ W'.cell? ⟨k1, 0, none⟩ = some (.string WD))) (by kernel_rfl) ?_ (fun hH => ?_)
    · exact hS.out _ hB.out
    generalize W0.drew = V0 at *
    refine wpAnyH_take (i := 0) (v := ?_) rfl (by kernel_rfl) (by kernel_rfl) (by kernel_rfl) (fun _ _ _ h => h) (Or.inl ⟨by rfl, by intro w hSw; go_simp; first | done | with_reducible rfl⟩) hH ?_
    simp only [List.getElem_toArray, List.getElem_cons_succ, List.getElem_cons_zero, Act.put, List.setIfInBounds_toArray, List.set_cons_zero, List.set_cons_succ]
    refine wpAnyH_take (i := 1) (v := ?_) rfl (by kernel_rfl) (by kernel_rfl) (by kernel_rfl) (fun _ _ _ h => h) (Or.inl ⟨by rfl, by intro w hSw; obtain ⟨s0, s1, s2⟩ := hSw; go_simp; first | done | with_reducible rfl⟩) hH ?_
    simp only [List.getElem_toArray, List.getElem_cons_succ, List.getElem_cons_zero, Act.put, List.setIfInBounds_toArray, List.set_cons_zero, List.set_cons_succ]
    refine wpAnyH_take (i := 4) (v := ?_) rfl (by kernel_rfl) (by kernel_rfl) (by kernel_rfl) (fun _ _ _ h => h) (Or.inl ⟨by rfl, by intro w hSw; go_simp; first | done | with_reducible rfl⟩) hH ?_
    simp only [List.getElem_toArray, List.getElem_cons_succ, List.getElem_cons_zero, Act.put, List.setIfInBounds_toArray, List.set_cons_zero, List.set_cons_succ]
    refine wpAnyH_take (i := 5) (v := ?_) rfl (by kernel_rfl) (by kernel_rfl) (by kernel_rfl) (fun _ _ _ h => h) (Or.inl ⟨by rfl, by intro w hSw; obtain ⟨s0, s1, s2⟩ := hSw; go_simp; first | done | with_reducible rfl⟩) hH ?_
    simp only [List.getElem_toArray, List.getElem_cons_succ, List.getElem_cons_zero, Act.put, List.setIfInBounds_toArray, List.set_cons_zero, List.set_cons_succ]
    refine wpAnyH_take (i := 8) (v := ?_) rfl (by kernel_rfl) (by kernel_rfl) (by kernel_rfl) (fun _ _ _ h => h) (Or.inl ⟨by rfl, by intro w hSw; go_simp; first | done | with_reducible rfl⟩) hH ?_
    simp only [List.getElem_toArray, List.getElem_cons_succ, List.getElem_cons_zero, Act.put, List.setIfInBounds_toArray, List.set_cons_zero, List.set_cons_succ]
    refine wpAnyH_take (i := 9) (v := ?_) rfl (by kernel_rfl) (by kernel_rfl) (by kernel_rfl) (fun _ _ _ h => h) (Or.inl ⟨by rfl, by intro w hSw; obtain ⟨s0, s1, s2⟩ := hSw; go_simp; first | done | with_reducible rfl⟩) hH ?_
    simp only [List.getElem_toArray, List.getElem_cons_succ, List.getElem_cons_zero, Act.put, List.setIfInBounds_toArray, List.set_cons_zero, List.set_cons_succ]
    refine wpAnyH_ready (rs := [2]) (by kernel_rfl) (by simp) ?_
    refine AllReadyH.cons rfl (fun K hK => ?_) ?_
    · clear hH
      go_simp
      refine (hc1 _ (hL.out.keep hB.out.bel)).mono ?_
      rintro e' V1 ⟨rfl, bb⟩
      have hB1 := Lib.hid (hB.out.keep bb)
      clear hB; have hB := hB1; clear hB1 bb
      refine hK.out _ _ (hS.out _ hB.out) (fun hH => ?_)
      clear hK K
      refine wpAnyH_take (i := 3) (v := ?_) rfl (by kernel_rfl) (by kernel_rfl) (by kernel_rfl) (fun _ _ _ h => h) (Or.inl ⟨by rfl, by intro w hSw; go_simp; first | done | with_reducible rfl⟩) hH ?_
      simp only [List.getElem_toArray, List.getElem_cons_succ, List.getElem_cons_zero, Act.put, List.setIfInBounds_toArray, List.set_cons_zero, List.set_cons_succ]
      refine wpAnyH_ready (rs := [6]) (by kernel_rfl) (by simp) ?_
      refine AllReadyH.cons rfl (fun K hK => ?_) ?_
      · clear hH
        go_simp
        refine (hc2 _ (hL.out.keep hB.out.bel)).mono ?_
        rintro e' V2 ⟨rfl, bb⟩
        have hB1 := Lib.hid (hB.out.keep bb)
        clear hB; have hB := hB1; clear hB1 bb
        refine hK.out _ _ (hS.out _ hB.out) (fun hH => ?_)
        clear hK K
        refine wpAnyH_take (i := 7) (v := ?_) rfl (by kernel_rfl) (by kernel_rfl) (by kernel_rfl) (fun _ _ _ h => h) (Or.inl ⟨by rfl, by intro w hSw; go_simp; first | done | with_reducible rfl⟩) hH ?_
        simp only [List.getElem_toArray, List.getElem_cons_succ, List.getElem_cons_zero, Act.put, List.setIfInBounds_toArray, List.set_cons_zero, List.set_cons_succ]
        refine wpAnyH_ready (rs := [10]) (by kernel_rfl) (by simp) ?_
        refine AllReadyH.cons rfl (fun K hK => ?_) ?_
        · clear hH
          have hT1 := hB.out.row T2 WD (by intro x hx; simp only [List.mem_cons, List.not_mem_nil, or_false] at hx; rcases hx with rfl | rfl; exact (show 55 ≠ 9 from by decide); exact (show 28 ≠ 9 from by decide))
          go_simp
          have hT := Lib.hid hT1
          have bb := (Below.refl _ V2).alloc (Nat.le_refl _) (.cells #[.string T2, .string WD] 9)
          have hB1 := Lib.hid (hB.out.keep bb)
          clear hB; have hB := hB1; clear hB1 bb
          clear hT1
          generalize V2.alloc (.cells #[.string T2, .string WD] 9) = V3 at *
          refine hK.out _ _ (hS.out _ hB.out) (fun hH => ?_)
          clear hK K
          refine wpAnyH_take (i := 11) (v := ?_) rfl (by kernel_rfl) (by kernel_rfl) (by kernel_rfl) (fun _ _ _ h => h) (Or.inl ⟨by rfl, by intro w hSw; go_simp; first | done | with_reducible rfl⟩) hH ?_
          simp only [List.getElem_toArray, List.getElem_cons_succ, List.getElem_cons_zero, Act.put, List.setIfInBounds_toArray, List.set_cons_zero, List.set_cons_succ]
          refine wpAnyH_done (by kernel_rfl) ?_ _
          clear hH hc1 hc2 hS hB b1 b2
          go_wp2_with (fail)
          refine (fields_any _).mono ?_
          rintro e w2 ⟨rfl, rfl⟩
          obtain ⟨k2, hk2⟩ : ∃ k2, k2 = V3.heap.size := ⟨_, rfl⟩
          have hT2 := hT.out.new fldArr 65 (by decide)
          rw [← hk2] at hT2 ⊢
          replace hk2 := Lib.hid hk2; replace hT2 := Lib.hid hT2
          clear hT
          go_wp2_with (fail)
          go_loopw [6, 31] (fun ll i wr => ∃ (j : Nat) (A1 : Option Addr) (n1 c1 : Nat), j ≤ 5 ∧ i = .int .i64 j ∧ ll = .slice A1 n1 c1 ∧ TB w [(k2, fldArr, 65), (k1, #[.string WD, .int .i64 (usesM m.k), .int .i64 (kSl m.k), .int .i64 (kLo m.k), .int .i64 (kHi m.k)], 55), (w.heap.size, #[.int .i64 m.k, .int .i64 m.fr, .int .i64 m.tt, .int .i64 m.ro, .int .i64 m.no, .int .i64 m.sl, .int .i64 m.nu, .string (sOf m.v), .slice A m.l.length c], 28)] ((textsTo m j).map sOf) A1 n1 c1 wr) (fun _ i _ => 5 - (intOf i).toNat)
          case atStart => exact ⟨0, _, 2, 2, by omega, rfl, rfl, by rw [hstart.out]; exact hT2.out⟩
          case round =>
            clear hT2
            revert wr
            intro W2 hrel
            obtain ⟨j, A1, n1, cq, hj, rfl, rfl, hT⟩ := hrel
            have hBk := (hT.ks _ (List.mem_cons_self ..)).1
            have hKk := (hT.ks _ (List.mem_cons_of_mem _ (List.mem_cons_self ..))).1
            have hMk := (hT.ks _ (List.mem_cons_of_mem _ (List.mem_cons_of_mem _ (List.mem_cons_self ..)))).1
            dsimp only at hBk hKk hMk
            have lB := blkX hBk; have lM := blkX hMk; have lK := blkX hKk
            by_cases hlt : j < 5
            · obtain ⟨f0, f1, f2, f3, f4, f5⟩ := fld_at j hlt
              have c0 := (blkC hBk (j * 6)).trans f0
              have c1 := (blkC hBk (j * 6 + 1)).trans f1
              have c2 := (blkC hBk (j * 6 + 2)).trans f2
              have c3 := (blkC hBk (j * 6 + 3)).trans f3
              have c4 := (blkC hBk (j * 6 + 4)).trans f4
              have c5 := (blkC hBk (j * 6 + 5)).trans f5
              have y1 : W2.cell? ⟨k1, 1, none⟩ = some (.int .i64 (usesM m.k)) := blkC hKk 1
              have z0 : W2.cell? ⟨w.heap.size, 0, none⟩ = some (.int .i64 m.k) := blkC hMk 0
              have z1 : W2.cell? ⟨w.heap.size, 1, none⟩ = some (.int .i64 m.fr) := blkC hMk 1
              have z2 : W2.cell? ⟨w.heap.size, 2, none⟩ = some (.int .i64 m.tt) := blkC hMk 2
              have z3 : W2.cell? ⟨w.heap.size, 3, none⟩ = some (.int .i64 m.ro) := blkC hMk 3
              have z4 : W2.cell? ⟨w.heap.size, 4, none⟩ = some (.int .i64 m.no) := blkC hMk 4
              have z5 : W2.cell? ⟨w.heap.size, 5, none⟩ = some (.int .i64 m.sl) := blkC hMk 5
              have z6 : W2.cell? ⟨w.heap.size, 6, none⟩ = some (.int .i64 m.nu) := blkC hMk 6
              have z7 : W2.cell? ⟨w.heap.size, 7, none⟩ = some (.string (sOf m.v)) := blkC hMk 7
              have z8 : W2.cell? ⟨w.heap.size, 8, none⟩ = some (.slice A m.l.length c) := blkC hMk 8
              have hT3 := hT.new #[.int .i64 (useBit j), .func (.func (fnOk j)) #[] #[], .func (.func (fnZero j)) #[] #[], .func (.func (fnWr j)) #[] #[], .func (.func (fnTx j)) #[] #[], .func (.func (fnRd j)) #[] #[]] 65 (by decide)
              have hstep : textsTo m (j + 1) = textsTo m j ++ (if fIn j m = true then [fText j m] else []) := rfl
              have hfin : fIn j m = (fUse j m.k && (decide (j ≠ 4) || !fZero j m)) := rfl
              have hub := use_bit m.k j hlt
              have hu0 := useBit_pos j
              have hu16 := useBit_16 j hlt
              have hcx := callTx j hlt
              have hcz := callZero j hlt
              have j0 : (0 : Int) ≤ j := by omega
              have j1 : (j : Int) < 5 := by omega
              have htl := texts_len m j
              have hn1 := hT.lt.len
              rw [List.length_map] at hn1
              have hES3 := SL.keep hE.out hT3.lt.bel
              have htx := fun (hu : fUse j m.k = true) W (hb : Below w.heap.size w W) => tx_any m A c W (hL.out.keep hb) (SL.keep hE.out hb) h0.out j hlt hu
              have hze := fun W => zeroj_any j hlt m A c W
              clear hBk hKk hMk f0 f1 f2 f3 f4 f5 hES3 hT
              generalize usesM m.k = us at *
              generalize useBit j = ub at *
              generalize fnOk j = n1' at *
              generalize fnZero j = n2' at *
              generalize fnWr j = n3' at *
              generalize fnTx j = n4' at *
              generalize fnRd j = n5' at *
              rcases Bool.eq_false_or_eq_true (fUse j m.k) with hu | hu
              · rw [hu] at hub hfin
                have hub2 : bits .and .i64 us ub = ub := hub
                rw [Bool.true_and] at hfin
                replace htx := htx hu
                clear hub hu
                by_cases h4 : j = 4
                · have h16 : ub = 16 := by rw [decide_eq_true h4] at hu16; simpa using hu16
                  subst h16
                  rw [show decide (j ≠ 4) = false from by simp [h4], Bool.false_or] at hfin
                  replace h4 := Lib.hid h4
                  clear hu16
                  rcases Bool.eq_false_or_eq_true (fZero j m) with hz | hz
                  · rw [hz] at hfin
                    have hnx := Lib.hid (show (textsTo m (j + 1)).map sOf = (textsTo m j).map sOf from by rw [hstep, hfin]; simp)
                    have hze' := fun W => hz ▸ hze W
                    clear hze hz hfin hstep htx
                    replace hT3 := Lib.hid hT3
                    go_wp2_with (fail)
                    refine (hze' _).mono ?_
                    rintro e w7 ⟨rfl, b7⟩
                    have hT4 := Lib.hid (hT3.out.keep b7).drop
                    clear b7 c0 c1 c2 c3 c4 c5 y1 z0 z1 z2 z3 z4 z5 z6 z7 z8
                    go_wp2_with (fail)
                    exact ⟨⟨j + 1, _, _, _, by omega, by go_num, rfl, by rw [hnx.out]; exact hT4.out⟩, by simp [intOf]; omega⟩
                  · rw [hz] at hfin
                    have hnx := Lib.hid (show (textsTo m (j + 1)).map sOf = (textsTo m j).map sOf ++ [sOf (fText j m)] from by rw [hstep, hfin]; simp)
                    have hze' := fun W => hz ▸ hze W
                    clear hze hz hfin hstep
                    replace hT3 := Lib.hid hT3
                    go_wp2_with (fail)
                    refine (hze' _).mono ?_
                    rintro e w7 ⟨rfl, b7⟩
                    have hT4 := hT3.out.keep b7
                    clear b7 c0 c1 c2 c3 c4 c5 y1 z0 z1 z2 z3 z4 z5 z6 z7 z8
                    obtain ⟨S, hSe⟩ : ∃ S, S = sOf (fText j m) := ⟨_, rfl⟩
                    rw [← hSe] at hnx htx
                    have hE8 := (hT4.ks _ (List.mem_cons_self ..)).1
                    have hM8 := (hT4.ks _ (List.mem_cons_of_mem _ (List.mem_cons_of_mem _ (List.mem_cons_of_mem _ (List.mem_cons_self ..))))).1
                    dsimp only at hE8 hM8
                    have x4 : w7.cell? ⟨W2.heap.size, 4, none⟩ = some (.func (.func n4') #[] #[]) := blkC hE8 4
                    have z0 : w7.cell? ⟨w.heap.size, 0, none⟩ = some (.int .i64 m.k) := blkC hM8 0
                    have z1 : w7.cell? ⟨w.heap.size, 1, none⟩ = some (.int .i64 m.fr) := blkC hM8 1
                    have z2 : w7.cell? ⟨w.heap.size, 2, none⟩ = some (.int .i64 m.tt) := blkC hM8 2
                    have z3 : w7.cell? ⟨w.heap.size, 3, none⟩ = some (.int .i64 m.ro) := blkC hM8 3
                    have z4 : w7.cell? ⟨w.heap.size, 4, none⟩ = some (.int .i64 m.no) := blkC hM8 4
                    have z5 : w7.cell? ⟨w.heap.size, 5, none⟩ = some (.int .i64 m.sl) := blkC hM8 5
                    have z6 : w7.cell? ⟨w.heap.size, 6, none⟩ = some (.int .i64 m.nu) := blkC hM8 6
                    have z7 : w7.cell? ⟨w.heap.size, 7, none⟩ = some (.string (sOf m.v)) := blkC hM8 7
                    have z8 : w7.cell? ⟨w.heap.size, 8, none⟩ = some (.slice A m.l.length c) := blkC hM8 8
                    have htx7 := htx _ hT4.lt.bel
                    replace hT4 := Lib.hid hT4; replace hSe := Lib.hid hSe
                    clear hE8 hM8 htx
                    go_wp2_with (fail)
                    refine htx7.mono ?_
                    rintro e w8 ⟨rfl, b8⟩
                    have hT5 := (hT4.out.keep b8).drop
                    have hN := str_one w8 S
                    have hb9 := (Below.refl _ w8).alloc (Nat.le_refl _) (.cells #[.string S] 9)
                    have hT6 := hT5.keep hb9
                    obtain ⟨A', c', w9, hrun, hcap, hown, hgr, hat⟩ := append_sl elemStr encS_len encS_one (ty := 43) (d := 1) hT6.lt.own hT6.lt.bel.size hN (by omega) (by omega)
                    have hT7 := Lib.hid (hT6.app hown hgr)
                    clear b8 hT5 hT6 hN hb9 hown hgr hat hcap x4 z0 z1 z2 z3 z4 z5 z6 z7 z8
                    go_wp2_with (fail)
                    exact ⟨⟨j + 1, A', n1 + 1, c', by omega, by go_num, rfl, by rw [hnx.out]; exact hT7.out⟩, by simp [intOf]; omega⟩
                · have h16 : (ub == 16) = false := by rw [hu16]; exact decide_eq_false h4
                  have h16' : ¬ ub = 16 := by simpa using h16
                  rw [show decide (j ≠ 4) = true from by simp [h4], Bool.true_or] at hfin
                  have hnx := Lib.hid (show (textsTo m (j + 1)).map sOf = (textsTo m j).map sOf ++ [sOf (fText j m)] from by rw [hstep, hfin]; simp)
                  replace h4 := Lib.hid h4
                  clear hu16 hze hfin hstep
                  have hT4 := hT3
                  replace hT3 := Lib.hid hT3
                  obtain ⟨S, hSe⟩ : ∃ S, S = sOf (fText j m) := ⟨_, rfl⟩
                  rw [← hSe] at hnx htx
                  have htx7 := htx _ hT4.lt.bel
                  replace hT4 := Lib.hid hT4; replace hSe := Lib.hid hSe
                  clear htx
                  go_wp2_with (fail)
                  refine htx7.mono ?_
                  rintro e w8 ⟨rfl, b8⟩
                  have hT5 := (hT4.out.keep b8).drop
                  have hN := str_one w8 S
                  have hb9 := (Below.refl _ w8).alloc (Nat.le_refl _) (.cells #[.string S] 9)
                  have hT6 := hT5.keep hb9
                  obtain ⟨A', c', w9, hrun, hcap, hown, hgr, hat⟩ := append_sl elemStr encS_len encS_one (ty := 43) (d := 1) hT6.lt.own hT6.lt.bel.size hN (by omega) (by omega)
                  have hT7 := Lib.hid (hT6.app hown hgr)
                  clear b8 hT5 hT6 hN hb9 hown hgr hat hcap c0 c1 c2 c3 c4 c5 y1 z0 z1 z2 z3 z4 z5 z6 z7 z8
                  go_wp2_with (fail)
                  exact ⟨⟨j + 1, A', n1 + 1, c', by omega, by go_num, rfl, by rw [hnx.out]; exact hT7.out⟩, by simp [intOf]; omega⟩
              · rw [hu] at hub hfin
                have hub2 : bits .and .i64 us ub = 0 := hub
                rw [Bool.false_and] at hfin
                have hnx := Lib.hid (show (textsTo m (j + 1)).map sOf = (textsTo m j).map sOf from by rw [hstep, hfin]; simp)
                clear hub hu hfin hstep htx hze hu16
                replace hT3 := Lib.hid hT3.drop
                go_wp2_with (fail)
                exact ⟨⟨j + 1, _, _, _, by omega, by go_num, rfl, by rw [hnx.out]; exact hT3.out⟩, by simp [intOf]; omega⟩
            · obtain rfl : j = 5 := by omega
              have hlen5 := hT.lt.len
              have hmm : ((textsTo m 5).map sOf).map (·.data.toList) = textsTo m 5 := by
                rw [List.map_map]
                conv => rhs; rw [← List.map_id (textsTo m 5)]
                exact List.map_congr_left fun e _ => sOf_list _
              obtain ⟨r, hr⟩ := texts_cons m 5
              have hn1 : 0 < n1 := by
                rw [hr] at hlen5
                simp only [List.map_cons, List.length_cons] at hlen5
                omega
              have hsl := SL.of_own encS_len hT.lt.own hT.lt.len
              obtain ⟨b, o, hb1, hb2, hb3⟩ := hsl.2 hn1
              obtain ⟨A', c', hsh, hcp⟩ := own_shape hT.lt.own
              have hcap : n1 ≤ cq := by injection hsh with _ _ e; omega
              have hjl := join_to_len h0.out 5 (by omega)
              have htl := texts_len m 5
              have hjn : (Lib.join (((textsTo m 5).map sOf).map (·.data.toList)) (⟨#[32]⟩ : ByteArray).data.toList).length ≤ 140737488355328 := by
                rw [hmm]; show (Lib.join (textsTo m 5) [32]).length ≤ _; omega
              have hj := Tryz.strings_Join b o cq ((textsTo m 5).map sOf) ⟨#[32]⟩ W2 (fun j s hs => by have := hb3 j s hs 0 _ rfl; simpa using this) hb2 (by rw [List.length_map]; omega) (by rw [hlen5]; exact hcap) hjn
              rw [hlen5, hmm, show (⟨#[32]⟩ : ByteArray).data.toList = [32] from rfl, text_join, ← hb1] at hj
              rw [show (⟨(textM m).toArray⟩ : ByteArray) = sOf (textM m) from rfl] at hj
              obtain ⟨S, hSe⟩ : ∃ S, S = sOf (textM m) := ⟨_, rfl⟩
              rw [← hSe] at hj
              replace hSe := Lib.hid hSe
              replace hT := Lib.hid hT.lt.bel
              clear hmm hsl hb1 hb2 hb3 hjn hjl hsh hr hlen5 htl hcap hcp hBk hKk hMk
              go_wp2_with (fail)
              refine hj.mono ?_
              rintro e w2 ⟨rfl, b2⟩
              have hb := Lib.hid (hT.out.trans (b2.mono hT.out.size))
              clear b2
              go_wp2_with (fail)
              go_ret2
              exact ⟨by rw [htxt.out, h0.out, ← hSe.out]; rfl, hb.out⟩
        exact AllReadyH.nil
      exact AllReadyH.nil
    exact AllReadyH.nil
  · have htxt := Lib.hid (show txtM m = [] from by unfold txtM; rw [if_neg h0])
    generalize hz : encE m = z at *
    have h1 : ¬ z = 0 := h0
    have h2 : (z == 0) = false := by simp [h0]
    replace kb := Lib.hid kb; replace hz := Lib.hid hz
    go_enter Tryz.func20, Tryz.ntmps20
    go_wp2_with (fail)
    refine hck.mono ?_
    rintro e w1 ⟨rfl, bb⟩
    have hb := Lib.hid (kb.out.trans (bb.mono kb.out.size))
    clear bb
    go_wp2_with (fail)
    go_ret2
    exact ⟨by rw [htxt.out]; rfl, hb.out⟩
end Go.Proofs.YtlinjanflenljaaGreatDoor
