/- The bytes of a message: the program's write. -/
import Derived.Test.YtlinjanflenljaaGreatDoorMPut
import Derived.Test.YtlinjanflenljaaGreatDoorRefW
import Derived.Deep.Onto
namespace Go.Proofs.YtlinjanflenljaaGreatDoor
open Go.RowKit
set_option linter.unusedSimpArgs false
set_option linter.unusedVariables false
set_option linter.unusedSectionVars false
set_option maxRecDepth 10000
theorem use_bits : ∀ b0 b1 b2 b3 b4 : Bool, bits .and .i64 (b2i b0 1 + b2i b1 2 + b2i b2 4 + b2i b3 8 + b2i b4 16) 1 = b2i b0 1 ∧ bits .and .i64 (b2i b0 1 + b2i b1 2 + b2i b2 4 + b2i b3 8 + b2i b4 16) 2 = b2i b1 2 ∧ bits .and .i64 (b2i b0 1 + b2i b1 2 + b2i b2 4 + b2i b3 8 + b2i b4 16) 4 = b2i b2 4 ∧ bits .and .i64 (b2i b0 1 + b2i b1 2 + b2i b2 4 + b2i b3 8 + b2i b4 16) 8 = b2i b3 8 ∧ bits .and .i64 (b2i b0 1 + b2i b1 2 + b2i b2 4 + b2i b3 8 + b2i b4 16) 16 = b2i b4 16 := by
  intro b0 b1 b2 b3 b4
  cases b0 <;> cases b1 <;> cases b2 <;> cases b3 <;> cases b4 <;> exact ⟨rfl, rfl, rfl, rfl, rfl⟩
theorem use_bit (k : Int) (j : Nat) (hj : j < 5) : bits .and .i64 (usesM k) (useBit j) = b2i (fUse j k) (useBit j) := by
  obtain ⟨h0, h1, h2, h3, h4⟩ := use_bits (uB k) (uS k) (uN k) (uV k) (uL k)
  have : j = 0 ∨ j = 1 ∨ j = 2 ∨ j = 3 ∨ j = 4 := by omega
  rcases this with rfl | rfl | rfl | rfl | rfl
  · exact h0
  · exact h1
  · exact h2
  · exact h3
  · exact h4
theorem useBit_pos (j : Nat) : ¬ useBit j = 0 := by
  unfold useBit; split <;> decide
theorem okL_mem : ∀ {l : List Ent} {p : Int}, okL p l = true → ∀ e ∈ l, ∃ q, okEnt q e = true
  | [], p, _, e, he => by cases he
  | a :: l, p, h, e, he => by
    simp only [okL, Bool.and_eq_true] at h
    rcases List.mem_cons.1 he with rfl | he
    · exact ⟨p, h.1⟩
    · exact okL_mem h.2 e he
theorem okL_fit {l : List Ent} {p : Int} (h : okL p l = true) (hv : ∀ e ∈ l, e.v.length ≤ 65536) : ∀ e ∈ l, fitE e := by
  intro e he
  obtain ⟨q, hq⟩ := okL_mem h e he
  simp only [okEnt, goodB, Bool.and_eq_true, decide_eq_true_eq] at hq
  exact ⟨by omega, by omega, by omega, hv e he⟩
/-- A field that is used: its numbers fit, and it is not too long. -/
structure FitM (m : Mg) : Prop where
  hd : headOK m = true
  b : (0 ≤ m.ro ∧ m.ro ≤ 2147483647) ∧ (0 ≤ m.no ∧ m.no ≤ 2147483647)
  s : 0 ≤ m.sl ∧ m.sl ≤ 4096
  n : 0 ≤ m.nu ∧ m.nu ≤ 2147483647
  v : m.v.length ≤ 65536
  l : ∀ e ∈ m.l, fitE e
  ln : m.l.length ≤ 4096
theorem fit_of {m : Mg} (h : argOK m = true) (hl : ¬ longM m = true) : FitM m := by
  obtain ⟨h0, h1, h2, h3, h4, h5⟩ := argOK_parts h
  obtain ⟨hv, hvs⟩ := longM_no hl
  have hL : (∀ e ∈ m.l, fitE e) ∧ m.l.length ≤ 4096 := by
    unfold fL at h5
    split at h5
    · have := okL_len m.l (-1) h5 (by omega) (by omega)
      exact ⟨okL_fit h5 hvs, by omega⟩
    · simp only [decide_eq_true_eq] at h5
      rw [h5]
      exact ⟨(fun e he => by cases he), by simp⟩
  exact ⟨h0, ballot_num h1, slot_num h2, num_num h3, hv, hL.1, hL.2⟩
theorem fBytes_len {m : Mg} (h : FitM m) (j : Nat) (hj : j < 4) : (fBytes j m).length ≤ 70000 := by
  obtain ⟨_, ⟨b1, b2⟩, b3, b4, b5, _, _⟩ := h
  have a := enc_len (n := m.ro.toNat) (by omega)
  have b := enc_len (n := m.no.toNat) (by omega)
  have c := enc_len (n := m.sl.toNat) (by omega)
  have d := enc_len (n := m.nu.toNat) (by omega)
  have e := enc_len (n := m.v.length) (by omega)
  have : j = 0 ∨ j = 1 ∨ j = 2 ∨ j = 3 := by omega
  rcases this with rfl | rfl | rfl | rfl <;> simp only [fBytes, List.length_append] <;> omega
theorem bHead_len {m : Mg} (h : FitM m) : (bHead m).length ≤ 30 := by
  have h0 := h.hd
  simp only [headOK, decide_eq_true_eq] at h0
  have a := enc_len (n := m.k.toNat) (by omega)
  have b := enc_len (n := m.fr.toNat) (by omega)
  have c := enc_len (n := m.tt.toNat) (by omega)
  simp only [bHead, List.length_append]; omega
theorem bytesTo_len {m : Mg} (h : FitM m) : ∀ j, j ≤ 4 → (bytesTo m j).length ≤ 30 + 70000 * j
  | 0, _ => by have := bHead_len h; simpa [bytesTo] using this
  | j + 1, hj => by
    have h1 := bytesTo_len h j (by omega)
    have h2 := fBytes_len h j (by omega)
    simp only [bytesTo, List.length_append]
    split
    · omega
    · simp; omega
theorem wr_any {w0 W : World} {g : Nat} {ks : List Kp} {ys : List UInt8} (m : Mg) (A : Option Addr) (c : Nat) (h : PW w0 g ks ys W) (hf : FitM m) (hE : ES w0 A m.l.length m.l) (hl : ys.length ≤ 500000000) (j : Nat) (hj : j < 5) :
    Calls Tryz.prog (fnWr j) #[.pointer (some ⟨g, 0, none⟩), .agg #[.int .i64 m.k, .int .i64 m.fr, .int .i64 m.tt, .int .i64 m.ro, .int .i64 m.no, .int .i64 m.sl, .int .i64 m.nu, .string (sOf m.v), .slice A m.l.length c]] W fun e w' => e = .returned (.tuple #[]) ∧ PW w0 g ks (ys ++ fBytes j m) w' := by
  have : j = 0 ∨ j = 1 ∨ j = 2 ∨ j = 3 ∨ j = 4 := by omega
  rcases this with rfl | rfl | rfl | rfl | rfl
  · exact wr0_any m A c h hf.b.1 hf.b.2 (by omega)
  · exact wr1_any m A c h (by have := hf.s; omega) (by omega)
  · exact wr2_any m A c h hf.n (by omega)
  · exact wr3_any m A c h hf.v (by omega)
  · exact putList_any m A c h hE hf.l hf.ln hl
/-- What the loop over the head keeps. -/
def enc3 (m : Mg) (k : Nat) : List UInt8 := match k with
  | 0 => [] | 1 => enc m.k.toNat | 2 => enc m.k.toNat ++ enc m.fr.toNat | _ => bHead m
theorem index3 (x : Int) (i : Int) (a b c : Int) (h : (i = 0 ∧ x = a) ∨ (i = 1 ∧ x = b) ∨ (i = 2 ∧ x = c)) (W : World) : (Instr.index 103 (.agg #[.int .i64 a, .int .i64 b, .int .i64 c]) (.int .i64 i)).run Tryz.prog W = .ok (.int .i64 x) W := by
  have hs := Tryz.isAgg3
  rcases h with ⟨rfl, rfl⟩ | ⟨rfl, rfl⟩ | ⟨rfl, rfl⟩ <;> simp [Instr.index, run_underlying Tryz.underlying103, asIntOf, part, go_sem, hs]
set_option maxHeartbeats 8000000 in
theorem write_any (m : Mg) (A : Option Addr) (c : Nat) (w : World) (hf : FitM m) (hE : ES w A m.l.length m.l) :
    Calls Tryz.prog 43 #[.agg #[.string (sOf (wordM m.k)), .int .i64 (usesM m.k), .int .i64 (kSl m.k), .int .i64 (kLo m.k), .int .i64 (kHi m.k)], .agg #[.int .i64 m.k, .int .i64 m.fr, .int .i64 m.tt, .int .i64 m.ro, .int .i64 m.no, .int .i64 m.sl, .int .i64 m.nu, .string (sOf m.v), .slice A m.l.length c]] w fun e w' => ∃ A' c', e = .returned (.slice A' (bytesM m).length c') ∧ IsBytes w A' c' (bytesM m) w' := by
  have h0 : PW w (w.heap.size + 2) [(w.heap.size + 1, #[.int .i64 m.k, .int .i64 m.fr, .int .i64 m.tt, .int .i64 m.ro, .int .i64 m.no, .int .i64 m.sl, .int .i64 m.nu, .string (sOf m.v), .slice A m.l.length c], 28), (w.heap.size, #[.string (sOf (wordM m.k)), .int .i64 (usesM m.k), .int .i64 (kSl m.k), .int .i64 (kLo m.k), .int .i64 (kHi m.k)], 55)] [] (((w.alloc (.cells #[.string (sOf (wordM m.k)), .int .i64 (usesM m.k), .int .i64 (kSl m.k), .int .i64 (kLo m.k), .int .i64 (kHi m.k)] 55)).alloc (.cells #[.int .i64 m.k, .int .i64 m.fr, .int .i64 m.tt, .int .i64 m.ro, .int .i64 m.no, .int .i64 m.sl, .int .i64 m.nu, .string (sOf m.v), .slice A m.l.length c] 28)).alloc (.cells #[.bool true, .slice none 0 0] 123)) := by
    have b2 : Below w.heap.size w ((w.alloc (.cells #[.string (sOf (wordM m.k)), .int .i64 (usesM m.k), .int .i64 (kSl m.k), .int .i64 (kLo m.k), .int .i64 (kHi m.k)] 55)).alloc (.cells #[.int .i64 m.k, .int .i64 m.fr, .int .i64 m.tt, .int .i64 m.ro, .int .i64 m.no, .int .i64 m.sl, .int .i64 m.nu, .string (sOf m.v), .slice A m.l.length c] 28)) := ((Below.refl _ w).alloc (Nat.le_refl _) _).alloc (by simp) _
    refine ⟨by omega, b2.alloc (by simp; omega) _, ⟨none, 0, ⟨hpNewAt _ (by simp), World.ownsRow_nil _ _ _ _⟩, fun k hk => by cases hk⟩, fun x hx => ?_⟩
    simp only [List.mem_cons, List.not_mem_nil, or_false] at hx
    rcases hx with rfl | rfl
    · exact ⟨(hpOld _ (by simp)).trans (hpNewAt _ (by simp)), (show 28 ≠ 5 from by decide), by simp⟩
    · exact ⟨(hpOld _ (by simp; omega)).trans ((hpOld _ (by simp)).trans (hpNew _ _)), (show 55 ≠ 5 from by decide), by simp⟩
  have hd := hf.hd
  simp only [headOK, decide_eq_true_eq] at hd
  obtain ⟨d1, d2, d3, d4, d5, d6, d7⟩ := hd
  have e1 := enc_len (n := m.k.toNat) (by omega)
  have e2 := enc_len (n := m.fr.toNat) (by omega)
  have m0 : m.k % 18446744073709551616 = m.k := by omega
  have m1 : m.fr % 18446744073709551616 = m.fr := by omega
  have m2 : m.tt % 18446744073709551616 = m.tt := by omega
  replace h0 := Lib.hid h0; replace hf := Lib.hid hf; replace hE := Lib.hid hE
  go_enter Tryz.func43, Tryz.ntmps43
  go_wp2_with (fail)
  refine (wNew_any _).mono ?_
  rintro e w3 ⟨rfl, rfl⟩
  go_wp2_with (fail)
  go_loopw [18] (fun i wr => ∃ k : Nat, k ≤ 3 ∧ i = .int .i64 k ∧ PW w (w.heap.size + 2) [(w.heap.size + 1, #[.int .i64 m.k, .int .i64 m.fr, .int .i64 m.tt, .int .i64 m.ro, .int .i64 m.no, .int .i64 m.sl, .int .i64 m.nu, .string (sOf m.v), .slice A m.l.length c], 28), (w.heap.size, #[.string (sOf (wordM m.k)), .int .i64 (usesM m.k), .int .i64 (kSl m.k), .int .i64 (kLo m.k), .int .i64 (kHi m.k)], 55)] (enc3 m k) wr) (fun i _ => 3 - (intOf i).toNat)
  case atStart => exact ⟨0, by omega, rfl, h0.out⟩
  case round =>
    clear h0
    revert wr
    intro W1 hrel
    obtain ⟨k, hk, rfl, h3⟩ := hrel
    have hk4 : k = 0 ∨ k = 1 ∨ k = 2 ∨ k = 3 := by omega
    have ix0 := index3 m.k 0 m.k m.fr m.tt (.inl ⟨rfl, rfl⟩)
    have ix1 := index3 m.fr 1 m.k m.fr m.tt (.inr (.inl ⟨rfl, rfl⟩))
    have ix2 := index3 m.tt 2 m.k m.fr m.tt (.inr (.inr ⟨rfl, rfl⟩))
    rcases hk4 with rfl | rfl | rfl | rfl
    · replace h3 := Lib.hid h3
      go_wp2_with (fail)
      refine (WB.uint h3.out m.k m.k.toNat (by omega) (by omega) (by simp [enc3])).mono ?_
      rintro e w4 ⟨rfl, h4⟩
      replace h4 := Lib.hid h4
      go_wp2_with (fail)
      exact ⟨⟨1, by omega, by go_num, h4.out⟩, by simp [intOf]⟩
    · replace h3 := Lib.hid h3
      go_wp2_with (fail)
      refine (WB.uint h3.out m.fr m.fr.toNat (by omega) (by omega) (by simp only [enc3]; omega)).mono ?_
      rintro e w4 ⟨rfl, h4⟩
      replace h4 := Lib.hid h4
      go_wp2_with (fail)
      exact ⟨⟨2, by omega, by go_num, h4.out⟩, by simp [intOf]⟩
    · replace h3 := Lib.hid h3
      go_wp2_with (fail)
      refine (WB.uint h3.out m.tt m.tt.toNat (by omega) (by omega) (by simp only [enc3, List.length_append]; omega)).mono ?_
      rintro e w4 ⟨rfl, h4⟩
      replace h4 := Lib.hid h4
      go_wp2_with (fail)
      exact ⟨⟨3, by omega, by go_num, h4.out⟩, by simp [intOf]⟩
    · replace h3 := Lib.hid h3
      go_wp2_with (fail)
      refine (fields_any _).mono ?_
      rintro e w4 ⟨rfl, rfl⟩
      have h4 := h3.out.new fldArr 65 (by decide)
      replace h4 := Lib.hid h4
      go_wp2_with (fail)
      go_loopw [28] (fun i wr => ∃ j : Nat, j ≤ 5 ∧ i = .int .i64 j ∧ PW w (w.heap.size + 2) [(W1.heap.size, fldArr, 65), (w.heap.size + 1, #[.int .i64 m.k, .int .i64 m.fr, .int .i64 m.tt, .int .i64 m.ro, .int .i64 m.no, .int .i64 m.sl, .int .i64 m.nu, .string (sOf m.v), .slice A m.l.length c], 28), (w.heap.size, #[.string (sOf (wordM m.k)), .int .i64 (usesM m.k), .int .i64 (kSl m.k), .int .i64 (kLo m.k), .int .i64 (kHi m.k)], 55)] (bytesTo m j) wr) (fun i _ => 5 - (intOf i).toNat)
      case atStart => exact ⟨0, by omega, rfl, h4.out⟩
      case round =>
        clear h4 h3
        revert wr
        intro W2 hrel
        obtain ⟨j, hj, rfl, h5⟩ := hrel
        have hB := (h5.ks _ (List.mem_cons_self ..)).1
        have hM := (h5.ks _ (List.mem_cons_of_mem _ (List.mem_cons_self ..))).1
        have hK := (h5.ks _ (List.mem_cons_of_mem _ (List.mem_cons_of_mem _ (List.mem_cons_self ..)))).1
        dsimp only at hB hM hK
        by_cases hlt : j < 5
        · obtain ⟨f0, f1, f2, f3, f4, f5⟩ := fld_at j hlt
          have c0 := (blkC hB (j * 6)).trans f0
          have c1 := (blkC hB (j * 6 + 1)).trans f1
          have c2 := (blkC hB (j * 6 + 2)).trans f2
          have c3 := (blkC hB (j * 6 + 3)).trans f3
          have c4 := (blkC hB (j * 6 + 4)).trans f4
          have c5 := (blkC hB (j * 6 + 5)).trans f5
          have lB := blkX hB; have lM := blkX hM; have lK := blkX hK
          have k1 : W2.cell? ⟨w.heap.size, 1, none⟩ = some (.int .i64 (usesM m.k)) := blkC hK 1
          have z0 : W2.cell? ⟨w.heap.size + 1, 0, none⟩ = some (.int .i64 m.k) := blkC hM 0
          have z1 : W2.cell? ⟨w.heap.size + 1, 1, none⟩ = some (.int .i64 m.fr) := blkC hM 1
          have z2 : W2.cell? ⟨w.heap.size + 1, 2, none⟩ = some (.int .i64 m.tt) := blkC hM 2
          have z3 : W2.cell? ⟨w.heap.size + 1, 3, none⟩ = some (.int .i64 m.ro) := blkC hM 3
          have z4 : W2.cell? ⟨w.heap.size + 1, 4, none⟩ = some (.int .i64 m.no) := blkC hM 4
          have z5 : W2.cell? ⟨w.heap.size + 1, 5, none⟩ = some (.int .i64 m.sl) := blkC hM 5
          have z6 : W2.cell? ⟨w.heap.size + 1, 6, none⟩ = some (.int .i64 m.nu) := blkC hM 6
          have z7 : W2.cell? ⟨w.heap.size + 1, 7, none⟩ = some (.string (sOf m.v)) := blkC hM 7
          have z8 : W2.cell? ⟨w.heap.size + 1, 8, none⟩ = some (.slice A m.l.length c) := blkC hM 8
          have h6 := h5.new #[.int .i64 (useBit j), .func (.func (fnOk j)) #[] #[], .func (.func (fnZero j)) #[] #[], .func (.func (fnWr j)) #[] #[], .func (.func (fnTx j)) #[] #[], .func (.func (fnRd j)) #[] #[]] 65 (by decide)
          have hwr := wr_any m A c h6 hf.out hE.out (by have := bytesTo_len hf.out j (by omega); omega) j hlt
          have hub := use_bit m.k j hlt
          have hu0 := useBit_pos j
          have hbt : bytesTo m (j + 1) = bytesTo m j ++ (if fUse j m.k = true then fBytes j m else []) := rfl
          have j0 : (0 : Int) ≤ j := by omega
          have j1 : (j : Int) < 5 := by omega
          generalize usesM m.k = us at *
          have hj5 : j = 0 ∨ j = 1 ∨ j = 2 ∨ j = 3 ∨ j = 4 := by omega
          replace h5 := Lib.hid h5
          clear hB hM hK f0 f1 f2 f3 f4 f5
          rcases Bool.eq_false_or_eq_true (fUse j m.k) with hu | hu
          · rw [hu] at hub hbt
            rw [if_pos rfl] at hbt
            have hub2 : bits .and .i64 us (useBit j) = useBit j := hub
            replace hbt := Lib.hid hbt; replace h6 := Lib.hid h6
            clear hub
            rcases hj5 with rfl | rfl | rfl | rfl | rfl
            all_goals
              simp only [fo0, fo1, fo2, fo3, fo4, fz0, fz1, fz2, fz3, fz4, fw0, fw1, fw2, fw3, fw4, ft0, ft1, ft2, ft3, ft4, fr0, fr1, fr2, fr3, fr4, ub0, ub1, ub2, ub3, ub4, Nat.reduceMul, Nat.reduceAdd, Nat.zero_mul, Nat.zero_add, Nat.one_mul] at c0 c1 c2 c3 c4 c5 hwr hub2 hu0
              go_wp2_with (fail)
              refine hwr.mono ?_
              rintro e w7 ⟨rfl, h7⟩
              replace h7 := Lib.hid (h7.drop.cast hbt.out.symm)
              clear z0 z1 z2 z3 z4 z5 z6 z7 z8 k1 c0 c1 c2 c3 c4 c5
              go_wp2_with (fail)
              exact ⟨⟨_, by omega, by go_num, h7.out⟩, by simp [intOf]⟩
          · rw [hu] at hub hbt
            rw [if_neg (by decide), List.append_nil] at hbt
            have hub2 : bits .and .i64 us (useBit j) = 0 := hub
            replace h6 := Lib.hid (h6.drop.cast hbt.symm)
            clear hub hwr
            rcases hj5 with rfl | rfl | rfl | rfl | rfl
            all_goals
              simp only [fo0, fo1, fo2, fo3, fo4, fz0, fz1, fz2, fz3, fz4, fw0, fw1, fw2, fw3, fw4, ft0, ft1, ft2, ft3, ft4, fr0, fr1, fr2, fr3, fr4, ub0, ub1, ub2, ub3, ub4, Nat.reduceMul, Nat.reduceAdd, Nat.zero_mul, Nat.zero_add, Nat.one_mul] at c0 c1 c2 c3 c4 c5 hub2 hu0
              go_wp2_with (fail)
              exact ⟨⟨_, by omega, by go_num, h6.out⟩, by simp [intOf]⟩
        · obtain rfl : j = 5 := by omega
          obtain ⟨Aw, cw, hiw, hrw⟩ := h5.ex
          have hlen : (bytesTo m 5).length ≤ 1000000000 := by
            have h4 := bytesTo_len hf.out 4 (by omega)
            have h5 := bEnts_len hf.out.l
            have h6 := hf.out.ln
            have h7 := enc_len (n := m.l.length) (by omega)
            show (bytesTo m 4 ++ _).length ≤ _
            rw [List.length_append]
            split
            · simp only [fBytes, List.length_append]; omega
            · simp; omega
          have hby := fun W (h : IsWr 123 W (w.heap.size + 2) Aw cw (bytesTo m 5)) => wBytes_any (w.heap.size + 2) Aw cw (bytesTo m 5) W h hlen
          replace h5 := Lib.hid h5; replace hiw := Lib.hid hiw
          clear hB hM hK
          go_wp2_with (fail)
          refine (hby _ hiw.out).mono ?_
          rintro e w7 ⟨A7, c7, rfl, o7, b7⟩
          have hb5 := h5.out.bel
          have hfin : IsBytes w A7 c7 (bytesM m) w7 := ⟨o7.mono hb5.size, hb5.trans (b7.mono hb5.size)⟩
          replace hfin := Lib.hid hfin
          clear o7 b7 hb5
          go_wp2_with (fail)
          go_ret
          exact ⟨A7, c7, rfl, hfin.out⟩
end Go.Proofs.YtlinjanflenljaaGreatDoor
