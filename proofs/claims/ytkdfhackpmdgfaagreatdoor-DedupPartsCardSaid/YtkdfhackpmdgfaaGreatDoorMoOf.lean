/- The effect, the key and the reply of a memo. -/
import Derived.Test.YtkdfhackpmdgfaaGreatDoorMem
namespace Go.Proofs.YtkdfhackpmdgfaaGreatDoor
open Go.RowKit Go.Shelf
set_option linter.unusedSimpArgs false
set_option linter.unusedVariables false
set_option linter.unusedSectionVars false
set_option maxRecDepth 10000
theorem blkX' {W : World} {g : Nat} {o : Obj} (h : W.heap[g]? = some o) : g < W.heap.size := (Array.getElem?_eq_some_iff.1 h).1
theorem rep_any (f : Int) (h0 : 0 ≤ f) (W : World) : Calls Tryz.prog 33 #[.string ⟨#[120]⟩, .int .i64 (f % 4)] W fun e w' => e = .returned (.string ⟨(Lib.repeatL [120] (f % 4).toNat).toArray⟩) ∧ Below W.heap.size W w' := by
  have := Tryz.strings_Repeat ⟨#[120]⟩ (f % 4).toNat W (by omega) (by show 1 * _ ≤ _; omega)
  rwa [show (((f % 4).toNat : Nat) : Int) = f % 4 from by omega] at this
theorem let_conv {V : World} {R : Nat} {x : Int} {T : TypeId} {f : Nat × Nat} (h : V.heap[R]? = some (.cells #[.int .u8 x] T f)) : (convert 27 9 (.slice (some ⟨R, 0, none⟩) 1 1)).run Tryz.prog V = .ok (.string ⟨#[UInt8.ofNat x.toNat]⟩) V := by
  refine run_convert_bytes_arg V 27 5 Tryz.underlying27 Tryz.underlying5 R 0 1 1 [x] rfl (fun i hi => ?_) 9 Tryz.underlying9
  obtain rfl : i = 0 := by omega
  exact blkC h 0
/-- What of has laid, behind some of its steps. -/
structure OfS (w : World) (n : Nat) (o0 o3 oE oR : Obj) (V : World) : Prop where
  b0 : V.heap[n]? = some o0
  b3 : V.heap[n + 1 + 1 + 1]? = some o3
  bE : V.heap[n + 1]? = some oE
  bR : V.heap[n + 1 + 1]? = some oR
  bel : Below n w V
theorem OfS.below {w : World} {n : Nat} {o0 o3 oE oR : Obj} {V V' : World} (h : OfS w n o0 o3 oE oR V) (hb : Below V.heap.size V V') : OfS w n o0 o3 oE oR V' :=
  ⟨(hb.block _ (blkX' h.b0)).trans h.b0, (hb.block _ (blkX' h.b3)).trans h.b3, (hb.block _ (blkX' h.bE)).trans h.bE, (hb.block _ (blkX' h.bR)).trans h.bR, h.bel.trans (hb.mono (by have := blkX' h.b0; omega))⟩
theorem OfS.setE {w : World} {n : Nat} {o0 o3 oR : Obj} {cs : Array Value} {T : TypeId} {V : World} {i : Nat} {v : Value} (h : OfS w n o0 o3 (.cells cs T (0, 0)) oR V) : OfS w n o0 o3 (.cells (cs.setIfInBounds i v) T (0, 0)) oR (V.setCell ⟨n + 1, i, none⟩ v) :=
  ⟨(hpFar (by show _ ≠ n + 1; omega)).trans h.b0, (hpFar (by show _ ≠ n + 1; omega)).trans h.b3, hpSet h.bE, (hpFar (by show _ ≠ n + 1; omega)).trans h.bR, h.bel.setCell (Nat.le_succ _) _⟩
theorem OfS.setR {w : World} {n : Nat} {o0 o3 oE : Obj} {cs : Array Value} {T : TypeId} {V : World} {i : Nat} {v : Value} (h : OfS w n o0 o3 oE (.cells cs T (0, 0)) V) : OfS w n o0 o3 oE (.cells (cs.setIfInBounds i v) T (0, 0)) (V.setCell ⟨n + 1 + 1, i, none⟩ v) :=
  ⟨(hpFar (by show _ ≠ n + 1 + 1; omega)).trans h.b0, (hpFar (by show _ ≠ n + 1 + 1; omega)).trans h.b3, (hpFar (by show _ ≠ n + 1 + 1; omega)).trans h.bE, hpSet h.bR, h.bel.setCell (by show n ≤ n + 1 + 1; omega) _⟩
set_option maxHeartbeats 8000000 in
theorem of_walk {a b c d f : Int} (ha : 0 ≤ a ∧ a ≤ 255) (hb : 0 ≤ b ∧ b ≤ 255) (hc : 0 ≤ c ∧ c ≤ 255) (hd : -2147483648 ≤ d ∧ d ≤ 2147483647) (hf : 0 ≤ f ∧ f ≤ 255) (w : World) : Calls Tryz.prog 15 #[.agg #[.int .u8 a, .int .u8 b, .int .u8 c, .int .i32 d, .int .u8 f]] w fun e w' => e = .returned (.tuple #[efV (moE (a, b, c, d, f)), .string (moK (a, b, c, d, f)), .agg #[.int .i64 (moR (a, b, c, d, f)).1, .int .i64 (moR (a, b, c, d, f)).2.1, .string (moR (a, b, c, d, f)).2.2]]) ∧ Below w.heap.size w w' := by
  obtain ⟨ha0, ha1⟩ := ha; obtain ⟨hb0, hb1⟩ := hb; obtain ⟨hc0, hc1⟩ := hc; obtain ⟨hd0, hd1⟩ := hd; obtain ⟨hf0, hf1⟩ := hf
  have hS : OfS w w.heap.size (.cells #[.int .u8 a, .int .u8 b, .int .u8 c, .int .i32 d, .int .u8 f] 48 (0, 0)) (.cells #[.int .i64 (1 + a % 5), .int .i64 (b % 8), .int .i64 (1 + b / 8 % 3)] 39 (0, 0)) (.cells #[.int .i64 0, .int .i64 0, .int .i64 0] 39 (0, 0)) (.cells #[.int .i64 0, .int .i64 0, .string ⟨#[]⟩] 50 (0, 0)) ((((w.alloc (.cells #[.int .u8 a, .int .u8 b, .int .u8 c, .int .i32 d, .int .u8 f] 48)).alloc (.cells #[.int .i64 0, .int .i64 0, .int .i64 0] 39)).alloc (.cells #[.int .i64 0, .int .i64 0, .string ⟨#[]⟩] 50)).alloc (.cells #[.int .i64 (1 + a % 5), .int .i64 (b % 8), .int .i64 (1 + b / 8 % 3)] 39)) := by
    refine ⟨?_, ?_, ?_, ?_, (((Below.refl _ w).alloc (Nat.le_refl _) _).alloc (by simp) _ |>.alloc (by simp <;> omega) _).alloc (by simp <;> omega) _⟩
    · rw [hpOld _ (by simp <;> omega), hpOld _ (by simp <;> omega), hpOld _ (by simp)]; exact hpNew w _
    · have := hpNew (((w.alloc (.cells #[.int .u8 a, .int .u8 b, .int .u8 c, .int .i32 d, .int .u8 f] 48)).alloc (.cells #[.int .i64 0, .int .i64 0, .int .i64 0] 39)).alloc (.cells #[.int .i64 0, .int .i64 0, .string ⟨#[]⟩] 50)) (.cells #[.int .i64 (1 + a % 5), .int .i64 (b % 8), .int .i64 (1 + b / 8 % 3)] 39)
      rwa [show (((w.alloc (.cells #[.int .u8 a, .int .u8 b, .int .u8 c, .int .i32 d, .int .u8 f] 48)).alloc (.cells #[.int .i64 0, .int .i64 0, .int .i64 0] 39)).alloc (.cells #[.int .i64 0, .int .i64 0, .string ⟨#[]⟩] 50)).heap.size = w.heap.size + 1 + 1 + 1 from by simp] at this
    · rw [hpOld _ (by simp <;> omega), hpOld _ (by simp)]
      have := hpNew (w.alloc (.cells #[.int .u8 a, .int .u8 b, .int .u8 c, .int .i32 d, .int .u8 f] 48)) (.cells #[.int .i64 0, .int .i64 0, .int .i64 0] 39)
      rwa [show (w.alloc (.cells #[.int .u8 a, .int .u8 b, .int .u8 c, .int .i32 d, .int .u8 f] 48)).heap.size = w.heap.size + 1 from by simp] at this
    · rw [hpOld _ (by simp)]
      have := hpNew ((w.alloc (.cells #[.int .u8 a, .int .u8 b, .int .u8 c, .int .i32 d, .int .u8 f] 48)).alloc (.cells #[.int .i64 0, .int .i64 0, .int .i64 0] 39)) (.cells #[.int .i64 0, .int .i64 0, .string ⟨#[]⟩] 50)
      rwa [show ((w.alloc (.cells #[.int .u8 a, .int .u8 b, .int .u8 c, .int .i32 d, .int .u8 f] 48)).alloc (.cells #[.int .i64 0, .int .i64 0, .int .i64 0] 39)).heap.size = w.heap.size + 1 + 1 from by simp] at this
  obtain ⟨W1, hW1⟩ : ∃ W1, W1 = (((w.alloc (.cells #[.int .u8 a, .int .u8 b, .int .u8 c, .int .i32 d, .int .u8 f] 48)).alloc (.cells #[.int .i64 0, .int .i64 0, .int .i64 0] 39)).alloc (.cells #[.int .i64 0, .int .i64 0, .string ⟨#[]⟩] 50)).alloc (.cells #[.int .i64 (1 + a % 5), .int .i64 (b % 8), .int .i64 (1 + b / 8 % 3)] 39) := ⟨_, rfl⟩
  rw [← hW1] at hS
  replace hS := Lib.hid hS
  go_enter Tryz.func15, Tryz.ntmps15
  go_wp2_with (fail)
  rw [← hW1]
  replace hW1 := Lib.hid hW1
  have hrep := rep_any f hf0
  have hkk : moK (a, b, c, d, f) = ⟨#[UInt8.ofNat (97 + c % 26).toNat]⟩ := by
    show letB (c % 26).toNat = _
    unfold letB
    rw [show (97 + c % 26).toNat = 97 + (c % 26).toNat from by omega]
  replace hkk := Lib.hid hkk
  have e1 : c.tmod 26 = c % 26 := Int.tmod_eq_emod_of_nonneg hc0
  have e2 : IntKind.u8.wrap (97 + c % 26) = 97 + c % 26 := by simp [IntKind.wrap, IntKind.signed, IntKind.bits]; omega
  have e3 : f.tmod 19 = f % 19 := Int.tmod_eq_emod_of_nonneg hf0
  have e4 : IntKind.i64.wrap (f % 19) = f % 19 := by simp [IntKind.wrap, IntKind.signed, IntKind.bits]; omega
  have e5 : IntKind.i64.wrap d = d := by simp [IntKind.wrap, IntKind.signed, IntKind.bits]; omega
  have e6 : f.tmod 4 = f % 4 := Int.tmod_eq_emod_of_nonneg hf0
  have e7 : IntKind.i64.wrap (f % 4) = f % 4 := by simp [IntKind.wrap, IntKind.signed, IntKind.bits]; omega
  obtain ⟨n, hn⟩ : ∃ n, n = w.heap.size := ⟨_, rfl⟩
  rw [← hn] at hS ⊢
  replace hn := Lib.hid hn
  have hV := Lib.hid (hS.out.below (Below.refl _ W1).drew)
  clear hS
  refine wp_region_held_drew (S := (fun w' => w'.heap[n]? = some (.cells #[.int .u8 a, .int .u8 b, .int .u8 c, .int .i32 d, .int .u8 f] 48 (0, 0)) ∧ w'.heap[n + 1 + 1 + 1]? = some (.cells #[.int .i64 (1 + a % 5), .int .i64 (b % 8), .int .i64 (1 + b / 8 % 3)] 39 (0, 0)))) (by kernel_rfl) ?_ (fun hH => ?_)
  · exact ⟨hV.out.b0, hV.out.b3⟩
  generalize W1.drew = V0 at *
  refine wpAnyH_take (i := 0) (v := ?_) rfl (by kernel_rfl) (by kernel_rfl) (by kernel_rfl) (fun _ _ _ h => h) (Or.inl ⟨by rfl, by intro w hSw; obtain ⟨q0, q3⟩ := hSw; have x0 := blkC q3 0; have x1 := blkC q3 1; have x2 := blkC q3 2; simp only [List.getElem?_toArray, List.getElem?_cons_zero, List.getElem?_cons_succ] at x0 x1 x2; go_simp; first | done | with_reducible rfl⟩) hH ?_
  simp only [List.getElem_toArray, List.getElem_cons_succ, List.getElem_cons_zero, Act.put, List.setIfInBounds_toArray, List.set_cons_zero, List.set_cons_succ]
  refine wpAnyH_take (i := 1) (v := ?_) rfl (by kernel_rfl) (by kernel_rfl) (by kernel_rfl) (fun _ _ _ h => h) (Or.inl ⟨by rfl, by intro w hSw; go_simp; first | done | with_reducible rfl⟩) hH ?_
  simp only [List.getElem_toArray, List.getElem_cons_succ, List.getElem_cons_zero, Act.put, List.setIfInBounds_toArray, List.set_cons_zero, List.set_cons_succ]
  refine wpAnyH_take (i := 2) (v := ?_) rfl (by kernel_rfl) (by kernel_rfl) (by kernel_rfl) (fun _ _ _ h => h) (Or.inl ⟨by rfl, by intro w hSw; obtain ⟨q0, q3⟩ := hSw; have x := blkC q0 2; simp only [List.getElem?_toArray, List.getElem?_cons_zero, List.getElem?_cons_succ] at x; go_simp; first | done | with_reducible rfl⟩) hH ?_
  simp only [List.getElem_toArray, List.getElem_cons_succ, List.getElem_cons_zero, Act.put, List.setIfInBounds_toArray, List.set_cons_zero, List.set_cons_succ]
  refine wpAnyH_take (i := 3) (v := ?_) rfl (by kernel_rfl) (by kernel_rfl) (by kernel_rfl) (fun _ _ _ h => h) (Or.inl ⟨by rfl, by intro w hSw; go_simp; first | done | with_reducible rfl⟩) hH ?_
  simp only [List.getElem_toArray, List.getElem_cons_succ, List.getElem_cons_zero, Act.put, List.setIfInBounds_toArray, List.set_cons_zero, List.set_cons_succ]
  refine wpAnyH_take (i := 4) (v := ?_) rfl (by kernel_rfl) (by kernel_rfl) (by kernel_rfl) (fun _ _ _ h => h) (Or.inl ⟨by rfl, by intro w hSw; go_simp; first | done | with_reducible rfl⟩) hH ?_
  simp only [List.getElem_toArray, List.getElem_cons_succ, List.getElem_cons_zero, Act.put, List.setIfInBounds_toArray, List.set_cons_zero, List.set_cons_succ]
  refine wpAnyH_take (i := 7) (v := ?_) rfl (by kernel_rfl) (by kernel_rfl) (by kernel_rfl) (fun _ _ _ h => h) (Or.inl ⟨by rfl, by intro w hSw; go_simp; first | done | with_reducible rfl⟩) hH ?_
  simp only [List.getElem_toArray, List.getElem_cons_succ, List.getElem_cons_zero, Act.put, List.setIfInBounds_toArray, List.set_cons_zero, List.set_cons_succ]
  refine wpAnyH_take (i := 8) (v := ?_) rfl (by kernel_rfl) (by kernel_rfl) (by kernel_rfl) (fun _ _ _ h => h) (Or.inl ⟨by rfl, by intro w hSw; obtain ⟨q0, q3⟩ := hSw; have x := blkC q0 4; simp only [List.getElem?_toArray, List.getElem?_cons_zero, List.getElem?_cons_succ] at x; go_simp; first | done | with_reducible rfl⟩) hH ?_
  simp only [List.getElem_toArray, List.getElem_cons_succ, List.getElem_cons_zero, Act.put, List.setIfInBounds_toArray, List.set_cons_zero, List.set_cons_succ]
  refine wpAnyH_take (i := 9) (v := ?_) rfl (by kernel_rfl) (by kernel_rfl) (by kernel_rfl) (fun _ _ _ h => h) (Or.inl ⟨by rfl, by intro w hSw; go_simp; first | done | with_reducible rfl⟩) hH ?_
  simp only [List.getElem_toArray, List.getElem_cons_succ, List.getElem_cons_zero, Act.put, List.setIfInBounds_toArray, List.set_cons_zero, List.set_cons_succ]
  refine wpAnyH_take (i := 10) (v := ?_) rfl (by kernel_rfl) (by kernel_rfl) (by kernel_rfl) (fun _ _ _ h => h) (Or.inl ⟨by rfl, by intro w hSw; go_simp; first | done | with_reducible rfl⟩) hH ?_
  simp only [List.getElem_toArray, List.getElem_cons_succ, List.getElem_cons_zero, Act.put, List.setIfInBounds_toArray, List.set_cons_zero, List.set_cons_succ]
  refine wpAnyH_take (i := 11) (v := ?_) rfl (by kernel_rfl) (by kernel_rfl) (by kernel_rfl) (fun _ _ _ h => h) (Or.inl ⟨by rfl, by intro w hSw; go_simp; first | done | with_reducible rfl⟩) hH ?_
  simp only [List.getElem_toArray, List.getElem_cons_succ, List.getElem_cons_zero, Act.put, List.setIfInBounds_toArray, List.set_cons_zero, List.set_cons_succ]
  refine wpAnyH_take (i := 12) (v := ?_) rfl (by kernel_rfl) (by kernel_rfl) (by kernel_rfl) (fun _ _ _ h => h) (Or.inl ⟨by rfl, by intro w hSw; obtain ⟨q0, q3⟩ := hSw; have x := blkC q0 3; simp only [List.getElem?_toArray, List.getElem?_cons_zero, List.getElem?_cons_succ] at x; go_simp; first | done | with_reducible rfl⟩) hH ?_
  simp only [List.getElem_toArray, List.getElem_cons_succ, List.getElem_cons_zero, Act.put, List.setIfInBounds_toArray, List.set_cons_zero, List.set_cons_succ]
  refine wpAnyH_take (i := 13) (v := ?_) rfl (by kernel_rfl) (by kernel_rfl) (by kernel_rfl) (fun _ _ _ h => h) (Or.inl ⟨by rfl, by intro w hSw; go_simp; first | done | with_reducible rfl⟩) hH ?_
  simp only [List.getElem_toArray, List.getElem_cons_succ, List.getElem_cons_zero, Act.put, List.setIfInBounds_toArray, List.set_cons_zero, List.set_cons_succ]
  refine wpAnyH_take (i := 14) (v := ?_) rfl (by kernel_rfl) (by kernel_rfl) (by kernel_rfl) (fun _ _ _ h => h) (Or.inl ⟨by rfl, by intro w hSw; go_simp; first | done | with_reducible rfl⟩) hH ?_
  simp only [List.getElem_toArray, List.getElem_cons_succ, List.getElem_cons_zero, Act.put, List.setIfInBounds_toArray, List.set_cons_zero, List.set_cons_succ]
  refine wpAnyH_take (i := 15) (v := ?_) rfl (by kernel_rfl) (by kernel_rfl) (by kernel_rfl) (fun _ _ _ h => h) (Or.inl ⟨by rfl, by intro w hSw; obtain ⟨q0, q3⟩ := hSw; have x := blkC q0 4; simp only [List.getElem?_toArray, List.getElem?_cons_zero, List.getElem?_cons_succ] at x; go_simp; first | done | with_reducible rfl⟩) hH ?_
  simp only [List.getElem_toArray, List.getElem_cons_succ, List.getElem_cons_zero, Act.put, List.setIfInBounds_toArray, List.set_cons_zero, List.set_cons_succ]
  refine wpAnyH_take (i := 16) (v := ?_) rfl (by kernel_rfl) (by kernel_rfl) (by kernel_rfl) (fun _ _ _ h => h) (Or.inl ⟨by rfl, by intro w hSw; go_simp; first | done | with_reducible rfl⟩) hH ?_
  simp only [List.getElem_toArray, List.getElem_cons_succ, List.getElem_cons_zero, Act.put, List.setIfInBounds_toArray, List.set_cons_zero, List.set_cons_succ]
  refine wpAnyH_take (i := 17) (v := ?_) rfl (by kernel_rfl) (by kernel_rfl) (by kernel_rfl) (fun _ _ _ h => h) (Or.inl ⟨by rfl, by intro w hSw; go_simp; first | done | with_reducible rfl⟩) hH ?_
  simp only [List.getElem_toArray, List.getElem_cons_succ, List.getElem_cons_zero, Act.put, List.setIfInBounds_toArray, List.set_cons_zero, List.set_cons_succ]
  refine wpAnyH_ready (rs := [5, 18]) (by kernel_rfl) (by simp) ?_
  refine AllReadyH.cons rfl (fun K hK => ?_) ?_
  · clear hH
    have hb3 := Lib.hid hV.out.b3
    have bb := (Below.refl _ V0).alloc (Nat.le_refl _) (.cells #[.int .u8 (97 + c % 26)] 5)
    have hB := Lib.hid (hpNew V0 (.cells #[.int .u8 (97 + c % 26)] 5))
    go_simp
    have hV1 := Lib.hid (hV.out.below bb)
    clear hV; have hV := hV1; clear hV1
    clear bb
    obtain ⟨R, hRR⟩ : ∃ R, R = V0.heap.size := ⟨_, rfl⟩
    rw [← hRR] at hB ⊢
    have hRn := Lib.hid (show n + 1 + 1 < R from by rw [hRR]; have := blkX hb3.out; omega)
    clear hRR hb3
    generalize V0.alloc (.cells #[.int .u8 (97 + c % 26)] 5) = V1 at *
    refine hK.out _ _ ⟨hV.out.b0, hV.out.b3⟩ (fun hH => ?_)
    clear hK K
    clear V0
    refine wpAnyH_ready (rs := [6, 18]) (by kernel_rfl) (by simp) ?_
    refine AllReadyH.cons rfl (fun K hK => ?_) ?_
    · clear hH
      have x := let_conv hB.out
      go_simp
      clear x
      have hV1 := hV; clear hV; have hV := hV1; clear hV1
      generalize hVV : V1 = V2 at *
      clear hVV hB
      refine hK.out _ _ ⟨hV.out.b0, hV.out.b3⟩ (fun hH => ?_)
      clear hK K
      refine wpAnyH_ready (rs := [18]) (by kernel_rfl) (by simp) ?_
      refine AllReadyH.cons rfl (fun K hK => ?_) ?_
      · clear hH
        go_simp
        refine (hrep _).mono ?_
        rintro e' V3 ⟨rfl, bb⟩
        have hV1 := Lib.hid (hV.out.below bb)
        clear hV; have hV := hV1; clear hV1
        clear bb
        refine hK.out _ _ ⟨hV.out.b0, hV.out.b3⟩ (fun hH => ?_)
        clear hK K
        clear V2
        refine wpAnyH_take (i := 19) (v := ?_) rfl (by kernel_rfl) (by kernel_rfl) (by kernel_rfl) (fun _ _ _ h => h) (Or.inl ⟨by rfl, by intro w hSw; go_simp; first | done | with_reducible rfl⟩) hH ?_
        simp only [List.getElem_toArray, List.getElem_cons_succ, List.getElem_cons_zero, Act.put, List.setIfInBounds_toArray, List.set_cons_zero, List.set_cons_succ]
        refine wpAnyH_ready (rs := [20]) (by kernel_rfl) (by simp) ?_
        refine AllReadyH.cons rfl (fun K hK => ?_) ?_
        · clear hH
          have x0 := blkC hV.out.bE 0; have x1 := blkC hV.out.bE 1; have x2 := blkC hV.out.bE 2
          have f0 := blkF hV.out.bE
          simp only [List.getElem?_toArray, List.getElem?_cons_zero, List.getElem?_cons_succ] at x0 x1 x2
          go_simp
          clear x0 x1 x2 f0
          have hV1 : OfS w n (.cells #[.int .u8 a, .int .u8 b, .int .u8 c, .int .i32 d, .int .u8 f] 48 (0, 0)) (.cells #[.int .i64 (1 + a % 5), .int .i64 (b % 8), .int .i64 (1 + b / 8 % 3)] 39 (0, 0)) (.cells #[.int .i64 (1 + a % 5), .int .i64 (b % 8), .int .i64 (1 + b / 8 % 3)] 39 (0, 0)) (.cells #[.int .i64 0, .int .i64 0, .string ⟨#[]⟩] 50 (0, 0)) (((V3.setCell ⟨n + 1, 0, none⟩ (.int .i64 (1 + a % 5))).setCell ⟨n + 1, 1, none⟩ (.int .i64 (b % 8))).setCell ⟨n + 1, 2, none⟩ (.int .i64 (1 + b / 8 % 3))) := ((hV.out.setE (i := 0) (v := .int .i64 (1 + a % 5))).setE (i := 1) (v := .int .i64 (b % 8))).setE (i := 2) (v := .int .i64 (1 + b / 8 % 3))
          clear hV; have hV := Lib.hid hV1; clear hV1
          generalize (((V3.setCell ⟨n + 1, 0, none⟩ (.int .i64 (1 + a % 5))).setCell ⟨n + 1, 1, none⟩ (.int .i64 (b % 8))).setCell ⟨n + 1, 2, none⟩ (.int .i64 (1 + b / 8 % 3))) = V4 at *
          refine hK.out _ _ ⟨hV.out.b0, hV.out.b3⟩ (fun hH => ?_)
          clear hK K
          refine wpAnyH_take (i := 21) (v := ?_) rfl (by kernel_rfl) (by kernel_rfl) (by kernel_rfl) (fun _ _ _ h => h) (Or.inl ⟨by rfl, by intro w hSw; go_simp; first | done | with_reducible rfl⟩) hH ?_
          simp only [List.getElem_toArray, List.getElem_cons_succ, List.getElem_cons_zero, Act.put, List.setIfInBounds_toArray, List.set_cons_zero, List.set_cons_succ]
          refine wpAnyH_ready (rs := [22]) (by kernel_rfl) (by simp) ?_
          refine AllReadyH.cons rfl (fun K hK => ?_) ?_
          · clear hH
            have x0 := blkC hV.out.bR 0; have x1 := blkC hV.out.bR 1; have x2 := blkC hV.out.bR 2
            have f0 := blkF hV.out.bR
            simp only [List.getElem?_toArray, List.getElem?_cons_zero, List.getElem?_cons_succ] at x0 x1 x2
            go_simp
            clear x0 x1 x2 f0
            have hV1 : OfS w n (.cells #[.int .u8 a, .int .u8 b, .int .u8 c, .int .i32 d, .int .u8 f] 48 (0, 0)) (.cells #[.int .i64 (1 + a % 5), .int .i64 (b % 8), .int .i64 (1 + b / 8 % 3)] 39 (0, 0)) (.cells #[.int .i64 (1 + a % 5), .int .i64 (b % 8), .int .i64 (1 + b / 8 % 3)] 39 (0, 0)) (.cells #[.int .i64 (f % 19), .int .i64 d, .string ⟨(Lib.repeatL [120] (f % 4).toNat).toArray⟩] 50 (0, 0)) (((V4.setCell ⟨n + 1 + 1, 0, none⟩ (.int .i64 (f % 19))).setCell ⟨n + 1 + 1, 1, none⟩ (.int .i64 d)).setCell ⟨n + 1 + 1, 2, none⟩ (.string ⟨(Lib.repeatL [120] (f % 4).toNat).toArray⟩)) := ((hV.out.setR (i := 0) (v := .int .i64 (f % 19))).setR (i := 1) (v := .int .i64 d)).setR (i := 2) (v := .string ⟨(Lib.repeatL [120] (f % 4).toNat).toArray⟩)
            clear hV; have hV := Lib.hid hV1; clear hV1
            generalize (((V4.setCell ⟨n + 1 + 1, 0, none⟩ (.int .i64 (f % 19))).setCell ⟨n + 1 + 1, 1, none⟩ (.int .i64 d)).setCell ⟨n + 1 + 1, 2, none⟩ (.string ⟨(Lib.repeatL [120] (f % 4).toNat).toArray⟩)) = V5 at *
            refine hK.out _ _ ⟨hV.out.b0, hV.out.b3⟩ (fun hH => ?_)
            clear hK K
            refine wpAnyH_done (by kernel_rfl) ?_ _
            have x0 := blkC hV.out.bE 0; have x1 := blkC hV.out.bE 1; have x2 := blkC hV.out.bE 2
            have y0 := blkC hV.out.bR 0; have y1 := blkC hV.out.bR 1; have y2 := blkC hV.out.bR 2
            simp only [List.getElem?_toArray, List.getElem?_cons_zero, List.getElem?_cons_succ] at x0 x1 x2 y0 y1 y2
            clear hH
            go_wp2_with (fail)
            refine bodyPost_ret (by simp [results, Tryz.results15, go_sem, *]; try with_reducible rfl) rfl ?_
            refine ⟨?_, by rw [← hn.out]; exact hV.out.bel⟩
            rw [hkk.out]; rfl
          exact AllReadyH.nil
        exact AllReadyH.nil
      exact AllReadyH.nil
    refine AllReadyH.cons rfl (fun K hK => ?_) ?_
    · clear hH
      go_simp
      refine (hrep _).mono ?_
      rintro e' V2 ⟨rfl, bb⟩
      have hV1 := Lib.hid (hV.out.below bb)
      clear hV; have hV := hV1; clear hV1
      have hB1 := Lib.hid ((bb.block _ (blkX hB.out)).trans hB.out)
      clear hB; have hB := hB1; clear hB1
      clear bb
      refine hK.out _ _ ⟨hV.out.b0, hV.out.b3⟩ (fun hH => ?_)
      clear hK K
      clear V1
      refine wpAnyH_take (i := 19) (v := ?_) rfl (by kernel_rfl) (by kernel_rfl) (by kernel_rfl) (fun _ _ _ h => h) (Or.inl ⟨by rfl, by intro w hSw; go_simp; first | done | with_reducible rfl⟩) hH ?_
      simp only [List.getElem_toArray, List.getElem_cons_succ, List.getElem_cons_zero, Act.put, List.setIfInBounds_toArray, List.set_cons_zero, List.set_cons_succ]
      refine wpAnyH_ready (rs := [6, 20]) (by kernel_rfl) (by simp) ?_
      refine AllReadyH.cons rfl (fun K hK => ?_) ?_
      · clear hH
        have x := let_conv hB.out
        go_simp
        clear x
        have hV1 := hV; clear hV; have hV := hV1; clear hV1
        generalize hVV : V2 = V3 at *
        clear hVV hB
        refine hK.out _ _ ⟨hV.out.b0, hV.out.b3⟩ (fun hH => ?_)
        clear hK K
        refine wpAnyH_ready (rs := [20]) (by kernel_rfl) (by simp) ?_
        refine AllReadyH.cons rfl (fun K hK => ?_) ?_
        · clear hH
          have x0 := blkC hV.out.bE 0; have x1 := blkC hV.out.bE 1; have x2 := blkC hV.out.bE 2
          have f0 := blkF hV.out.bE
          simp only [List.getElem?_toArray, List.getElem?_cons_zero, List.getElem?_cons_succ] at x0 x1 x2
          go_simp
          clear x0 x1 x2 f0
          have hV1 : OfS w n (.cells #[.int .u8 a, .int .u8 b, .int .u8 c, .int .i32 d, .int .u8 f] 48 (0, 0)) (.cells #[.int .i64 (1 + a % 5), .int .i64 (b % 8), .int .i64 (1 + b / 8 % 3)] 39 (0, 0)) (.cells #[.int .i64 (1 + a % 5), .int .i64 (b % 8), .int .i64 (1 + b / 8 % 3)] 39 (0, 0)) (.cells #[.int .i64 0, .int .i64 0, .string ⟨#[]⟩] 50 (0, 0)) (((V3.setCell ⟨n + 1, 0, none⟩ (.int .i64 (1 + a % 5))).setCell ⟨n + 1, 1, none⟩ (.int .i64 (b % 8))).setCell ⟨n + 1, 2, none⟩ (.int .i64 (1 + b / 8 % 3))) := ((hV.out.setE (i := 0) (v := .int .i64 (1 + a % 5))).setE (i := 1) (v := .int .i64 (b % 8))).setE (i := 2) (v := .int .i64 (1 + b / 8 % 3))
          clear hV; have hV := Lib.hid hV1; clear hV1
          generalize (((V3.setCell ⟨n + 1, 0, none⟩ (.int .i64 (1 + a % 5))).setCell ⟨n + 1, 1, none⟩ (.int .i64 (b % 8))).setCell ⟨n + 1, 2, none⟩ (.int .i64 (1 + b / 8 % 3))) = V4 at *
          refine hK.out _ _ ⟨hV.out.b0, hV.out.b3⟩ (fun hH => ?_)
          clear hK K
          refine wpAnyH_take (i := 21) (v := ?_) rfl (by kernel_rfl) (by kernel_rfl) (by kernel_rfl) (fun _ _ _ h => h) (Or.inl ⟨by rfl, by intro w hSw; go_simp; first | done | with_reducible rfl⟩) hH ?_
          simp only [List.getElem_toArray, List.getElem_cons_succ, List.getElem_cons_zero, Act.put, List.setIfInBounds_toArray, List.set_cons_zero, List.set_cons_succ]
          refine wpAnyH_ready (rs := [22]) (by kernel_rfl) (by simp) ?_
          refine AllReadyH.cons rfl (fun K hK => ?_) ?_
          · clear hH
            have x0 := blkC hV.out.bR 0; have x1 := blkC hV.out.bR 1; have x2 := blkC hV.out.bR 2
            have f0 := blkF hV.out.bR
            simp only [List.getElem?_toArray, List.getElem?_cons_zero, List.getElem?_cons_succ] at x0 x1 x2
            go_simp
            clear x0 x1 x2 f0
            have hV1 : OfS w n (.cells #[.int .u8 a, .int .u8 b, .int .u8 c, .int .i32 d, .int .u8 f] 48 (0, 0)) (.cells #[.int .i64 (1 + a % 5), .int .i64 (b % 8), .int .i64 (1 + b / 8 % 3)] 39 (0, 0)) (.cells #[.int .i64 (1 + a % 5), .int .i64 (b % 8), .int .i64 (1 + b / 8 % 3)] 39 (0, 0)) (.cells #[.int .i64 (f % 19), .int .i64 d, .string ⟨(Lib.repeatL [120] (f % 4).toNat).toArray⟩] 50 (0, 0)) (((V4.setCell ⟨n + 1 + 1, 0, none⟩ (.int .i64 (f % 19))).setCell ⟨n + 1 + 1, 1, none⟩ (.int .i64 d)).setCell ⟨n + 1 + 1, 2, none⟩ (.string ⟨(Lib.repeatL [120] (f % 4).toNat).toArray⟩)) := ((hV.out.setR (i := 0) (v := .int .i64 (f % 19))).setR (i := 1) (v := .int .i64 d)).setR (i := 2) (v := .string ⟨(Lib.repeatL [120] (f % 4).toNat).toArray⟩)
            clear hV; have hV := Lib.hid hV1; clear hV1
            generalize (((V4.setCell ⟨n + 1 + 1, 0, none⟩ (.int .i64 (f % 19))).setCell ⟨n + 1 + 1, 1, none⟩ (.int .i64 d)).setCell ⟨n + 1 + 1, 2, none⟩ (.string ⟨(Lib.repeatL [120] (f % 4).toNat).toArray⟩)) = V5 at *
            refine hK.out _ _ ⟨hV.out.b0, hV.out.b3⟩ (fun hH => ?_)
            clear hK K
            refine wpAnyH_done (by kernel_rfl) ?_ _
            have x0 := blkC hV.out.bE 0; have x1 := blkC hV.out.bE 1; have x2 := blkC hV.out.bE 2
            have y0 := blkC hV.out.bR 0; have y1 := blkC hV.out.bR 1; have y2 := blkC hV.out.bR 2
            simp only [List.getElem?_toArray, List.getElem?_cons_zero, List.getElem?_cons_succ] at x0 x1 x2 y0 y1 y2
            clear hH
            go_wp2_with (fail)
            refine bodyPost_ret (by simp [results, Tryz.results15, go_sem, *]; try with_reducible rfl) rfl ?_
            refine ⟨?_, by rw [← hn.out]; exact hV.out.bel⟩
            rw [hkk.out]; rfl
          exact AllReadyH.nil
        exact AllReadyH.nil
      refine AllReadyH.cons rfl (fun K hK => ?_) ?_
      · clear hH
        have x0 := blkC hV.out.bE 0; have x1 := blkC hV.out.bE 1; have x2 := blkC hV.out.bE 2
        have f0 := blkF hV.out.bE
        simp only [List.getElem?_toArray, List.getElem?_cons_zero, List.getElem?_cons_succ] at x0 x1 x2
        go_simp
        clear x0 x1 x2 f0
        have hV1 : OfS w n (.cells #[.int .u8 a, .int .u8 b, .int .u8 c, .int .i32 d, .int .u8 f] 48 (0, 0)) (.cells #[.int .i64 (1 + a % 5), .int .i64 (b % 8), .int .i64 (1 + b / 8 % 3)] 39 (0, 0)) (.cells #[.int .i64 (1 + a % 5), .int .i64 (b % 8), .int .i64 (1 + b / 8 % 3)] 39 (0, 0)) (.cells #[.int .i64 0, .int .i64 0, .string ⟨#[]⟩] 50 (0, 0)) (((V2.setCell ⟨n + 1, 0, none⟩ (.int .i64 (1 + a % 5))).setCell ⟨n + 1, 1, none⟩ (.int .i64 (b % 8))).setCell ⟨n + 1, 2, none⟩ (.int .i64 (1 + b / 8 % 3))) := ((hV.out.setE (i := 0) (v := .int .i64 (1 + a % 5))).setE (i := 1) (v := .int .i64 (b % 8))).setE (i := 2) (v := .int .i64 (1 + b / 8 % 3))
        have hB1 : (((V2.setCell ⟨n + 1, 0, none⟩ (.int .i64 (1 + a % 5))).setCell ⟨n + 1, 1, none⟩ (.int .i64 (b % 8))).setCell ⟨n + 1, 2, none⟩ (.int .i64 (1 + b / 8 % 3))).heap[R]? = some (.cells #[.int .u8 (97 + c % 26)] 5 (0, 0)) := by rw [hpFar (by have := hRn.out; simp; omega), hpFar (by have := hRn.out; simp; omega), hpFar (by have := hRn.out; simp; omega)]; exact hB.out
        clear hB; have hB := Lib.hid hB1; clear hB1
        clear hV; have hV := Lib.hid hV1; clear hV1
        generalize (((V2.setCell ⟨n + 1, 0, none⟩ (.int .i64 (1 + a % 5))).setCell ⟨n + 1, 1, none⟩ (.int .i64 (b % 8))).setCell ⟨n + 1, 2, none⟩ (.int .i64 (1 + b / 8 % 3))) = V3 at *
        refine hK.out _ _ ⟨hV.out.b0, hV.out.b3⟩ (fun hH => ?_)
        clear hK K
        refine wpAnyH_ready (rs := [6]) (by kernel_rfl) (by simp) ?_
        refine AllReadyH.cons rfl (fun K hK => ?_) ?_
        · clear hH
          have x := let_conv hB.out
          go_simp
          clear x
          have hV1 := hV; clear hV; have hV := hV1; clear hV1
          generalize hVV : V3 = V4 at *
          clear hVV hB
          refine hK.out _ _ ⟨hV.out.b0, hV.out.b3⟩ (fun hH => ?_)
          clear hK K
          refine wpAnyH_take (i := 21) (v := ?_) rfl (by kernel_rfl) (by kernel_rfl) (by kernel_rfl) (fun _ _ _ h => h) (Or.inl ⟨by rfl, by intro w hSw; go_simp; first | done | with_reducible rfl⟩) hH ?_
          simp only [List.getElem_toArray, List.getElem_cons_succ, List.getElem_cons_zero, Act.put, List.setIfInBounds_toArray, List.set_cons_zero, List.set_cons_succ]
          refine wpAnyH_ready (rs := [22]) (by kernel_rfl) (by simp) ?_
          refine AllReadyH.cons rfl (fun K hK => ?_) ?_
          · clear hH
            have x0 := blkC hV.out.bR 0; have x1 := blkC hV.out.bR 1; have x2 := blkC hV.out.bR 2
            have f0 := blkF hV.out.bR
            simp only [List.getElem?_toArray, List.getElem?_cons_zero, List.getElem?_cons_succ] at x0 x1 x2
            go_simp
            clear x0 x1 x2 f0
            have hV1 : OfS w n (.cells #[.int .u8 a, .int .u8 b, .int .u8 c, .int .i32 d, .int .u8 f] 48 (0, 0)) (.cells #[.int .i64 (1 + a % 5), .int .i64 (b % 8), .int .i64 (1 + b / 8 % 3)] 39 (0, 0)) (.cells #[.int .i64 (1 + a % 5), .int .i64 (b % 8), .int .i64 (1 + b / 8 % 3)] 39 (0, 0)) (.cells #[.int .i64 (f % 19), .int .i64 d, .string ⟨(Lib.repeatL [120] (f % 4).toNat).toArray⟩] 50 (0, 0)) (((V4.setCell ⟨n + 1 + 1, 0, none⟩ (.int .i64 (f % 19))).setCell ⟨n + 1 + 1, 1, none⟩ (.int .i64 d)).setCell ⟨n + 1 + 1, 2, none⟩ (.string ⟨(Lib.repeatL [120] (f % 4).toNat).toArray⟩)) := ((hV.out.setR (i := 0) (v := .int .i64 (f % 19))).setR (i := 1) (v := .int .i64 d)).setR (i := 2) (v := .string ⟨(Lib.repeatL [120] (f % 4).toNat).toArray⟩)
            clear hV; have hV := Lib.hid hV1; clear hV1
            generalize (((V4.setCell ⟨n + 1 + 1, 0, none⟩ (.int .i64 (f % 19))).setCell ⟨n + 1 + 1, 1, none⟩ (.int .i64 d)).setCell ⟨n + 1 + 1, 2, none⟩ (.string ⟨(Lib.repeatL [120] (f % 4).toNat).toArray⟩)) = V5 at *
            refine hK.out _ _ ⟨hV.out.b0, hV.out.b3⟩ (fun hH => ?_)
            clear hK K
            refine wpAnyH_done (by kernel_rfl) ?_ _
            have x0 := blkC hV.out.bE 0; have x1 := blkC hV.out.bE 1; have x2 := blkC hV.out.bE 2
            have y0 := blkC hV.out.bR 0; have y1 := blkC hV.out.bR 1; have y2 := blkC hV.out.bR 2
            simp only [List.getElem?_toArray, List.getElem?_cons_zero, List.getElem?_cons_succ] at x0 x1 x2 y0 y1 y2
            clear hH
            go_wp2_with (fail)
            refine bodyPost_ret (by simp [results, Tryz.results15, go_sem, *]; try with_reducible rfl) rfl ?_
            refine ⟨?_, by rw [← hn.out]; exact hV.out.bel⟩
            rw [hkk.out]; rfl
          exact AllReadyH.nil
        exact AllReadyH.nil
      exact AllReadyH.nil
    exact AllReadyH.nil
  refine AllReadyH.cons rfl (fun K hK => ?_) ?_
  · clear hH
    go_simp
    refine (hrep _).mono ?_
    rintro e' V1 ⟨rfl, bb⟩
    have hV1 := Lib.hid (hV.out.below bb)
    clear hV; have hV := hV1; clear hV1
    clear bb
    refine hK.out _ _ ⟨hV.out.b0, hV.out.b3⟩ (fun hH => ?_)
    clear hK K
    clear V0
    refine wpAnyH_take (i := 19) (v := ?_) rfl (by kernel_rfl) (by kernel_rfl) (by kernel_rfl) (fun _ _ _ h => h) (Or.inl ⟨by rfl, by intro w hSw; go_simp; first | done | with_reducible rfl⟩) hH ?_
    simp only [List.getElem_toArray, List.getElem_cons_succ, List.getElem_cons_zero, Act.put, List.setIfInBounds_toArray, List.set_cons_zero, List.set_cons_succ]
    refine wpAnyH_ready (rs := [5, 20]) (by kernel_rfl) (by simp) ?_
    refine AllReadyH.cons rfl (fun K hK => ?_) ?_
    · clear hH
      have hb3 := Lib.hid hV.out.b3
      have bb := (Below.refl _ V1).alloc (Nat.le_refl _) (.cells #[.int .u8 (97 + c % 26)] 5)
      have hB := Lib.hid (hpNew V1 (.cells #[.int .u8 (97 + c % 26)] 5))
      go_simp
      have hV1 := Lib.hid (hV.out.below bb)
      clear hV; have hV := hV1; clear hV1
      clear bb
      obtain ⟨R, hRR⟩ : ∃ R, R = V1.heap.size := ⟨_, rfl⟩
      rw [← hRR] at hB ⊢
      have hRn := Lib.hid (show n + 1 + 1 < R from by rw [hRR]; have := blkX hb3.out; omega)
      clear hRR hb3
      generalize V1.alloc (.cells #[.int .u8 (97 + c % 26)] 5) = V2 at *
      refine hK.out _ _ ⟨hV.out.b0, hV.out.b3⟩ (fun hH => ?_)
      clear hK K
      clear V1
      refine wpAnyH_ready (rs := [6, 20]) (by kernel_rfl) (by simp) ?_
      refine AllReadyH.cons rfl (fun K hK => ?_) ?_
      · clear hH
        have x := let_conv hB.out
        go_simp
        clear x
        have hV1 := hV; clear hV; have hV := hV1; clear hV1
        generalize hVV : V2 = V3 at *
        clear hVV hB
        refine hK.out _ _ ⟨hV.out.b0, hV.out.b3⟩ (fun hH => ?_)
        clear hK K
        refine wpAnyH_ready (rs := [20]) (by kernel_rfl) (by simp) ?_
        refine AllReadyH.cons rfl (fun K hK => ?_) ?_
        · clear hH
          have x0 := blkC hV.out.bE 0; have x1 := blkC hV.out.bE 1; have x2 := blkC hV.out.bE 2
          have f0 := blkF hV.out.bE
          simp only [List.getElem?_toArray, List.getElem?_cons_zero, List.getElem?_cons_succ] at x0 x1 x2
          go_simp
          clear x0 x1 x2 f0
          have hV1 : OfS w n (.cells #[.int .u8 a, .int .u8 b, .int .u8 c, .int .i32 d, .int .u8 f] 48 (0, 0)) (.cells #[.int .i64 (1 + a % 5), .int .i64 (b % 8), .int .i64 (1 + b / 8 % 3)] 39 (0, 0)) (.cells #[.int .i64 (1 + a % 5), .int .i64 (b % 8), .int .i64 (1 + b / 8 % 3)] 39 (0, 0)) (.cells #[.int .i64 0, .int .i64 0, .string ⟨#[]⟩] 50 (0, 0)) (((V3.setCell ⟨n + 1, 0, none⟩ (.int .i64 (1 + a % 5))).setCell ⟨n + 1, 1, none⟩ (.int .i64 (b % 8))).setCell ⟨n + 1, 2, none⟩ (.int .i64 (1 + b / 8 % 3))) := ((hV.out.setE (i := 0) (v := .int .i64 (1 + a % 5))).setE (i := 1) (v := .int .i64 (b % 8))).setE (i := 2) (v := .int .i64 (1 + b / 8 % 3))
          clear hV; have hV := Lib.hid hV1; clear hV1
          generalize (((V3.setCell ⟨n + 1, 0, none⟩ (.int .i64 (1 + a % 5))).setCell ⟨n + 1, 1, none⟩ (.int .i64 (b % 8))).setCell ⟨n + 1, 2, none⟩ (.int .i64 (1 + b / 8 % 3))) = V4 at *
          refine hK.out _ _ ⟨hV.out.b0, hV.out.b3⟩ (fun hH => ?_)
          clear hK K
          refine wpAnyH_take (i := 21) (v := ?_) rfl (by kernel_rfl) (by kernel_rfl) (by kernel_rfl) (fun _ _ _ h => h) (Or.inl ⟨by rfl, by intro w hSw; go_simp; first | done | with_reducible rfl⟩) hH ?_
          simp only [List.getElem_toArray, List.getElem_cons_succ, List.getElem_cons_zero, Act.put, List.setIfInBounds_toArray, List.set_cons_zero, List.set_cons_succ]
          refine wpAnyH_ready (rs := [22]) (by kernel_rfl) (by simp) ?_
          refine AllReadyH.cons rfl (fun K hK => ?_) ?_
          · clear hH
            have x0 := blkC hV.out.bR 0; have x1 := blkC hV.out.bR 1; have x2 := blkC hV.out.bR 2
            have f0 := blkF hV.out.bR
            simp only [List.getElem?_toArray, List.getElem?_cons_zero, List.getElem?_cons_succ] at x0 x1 x2
            go_simp
            clear x0 x1 x2 f0
            have hV1 : OfS w n (.cells #[.int .u8 a, .int .u8 b, .int .u8 c, .int .i32 d, .int .u8 f] 48 (0, 0)) (.cells #[.int .i64 (1 + a % 5), .int .i64 (b % 8), .int .i64 (1 + b / 8 % 3)] 39 (0, 0)) (.cells #[.int .i64 (1 + a % 5), .int .i64 (b % 8), .int .i64 (1 + b / 8 % 3)] 39 (0, 0)) (.cells #[.int .i64 (f % 19), .int .i64 d, .string ⟨(Lib.repeatL [120] (f % 4).toNat).toArray⟩] 50 (0, 0)) (((V4.setCell ⟨n + 1 + 1, 0, none⟩ (.int .i64 (f % 19))).setCell ⟨n + 1 + 1, 1, none⟩ (.int .i64 d)).setCell ⟨n + 1 + 1, 2, none⟩ (.string ⟨(Lib.repeatL [120] (f % 4).toNat).toArray⟩)) := ((hV.out.setR (i := 0) (v := .int .i64 (f % 19))).setR (i := 1) (v := .int .i64 d)).setR (i := 2) (v := .string ⟨(Lib.repeatL [120] (f % 4).toNat).toArray⟩)
            clear hV; have hV := Lib.hid hV1; clear hV1
            generalize (((V4.setCell ⟨n + 1 + 1, 0, none⟩ (.int .i64 (f % 19))).setCell ⟨n + 1 + 1, 1, none⟩ (.int .i64 d)).setCell ⟨n + 1 + 1, 2, none⟩ (.string ⟨(Lib.repeatL [120] (f % 4).toNat).toArray⟩)) = V5 at *
            refine hK.out _ _ ⟨hV.out.b0, hV.out.b3⟩ (fun hH => ?_)
            clear hK K
            refine wpAnyH_done (by kernel_rfl) ?_ _
            have x0 := blkC hV.out.bE 0; have x1 := blkC hV.out.bE 1; have x2 := blkC hV.out.bE 2
            have y0 := blkC hV.out.bR 0; have y1 := blkC hV.out.bR 1; have y2 := blkC hV.out.bR 2
            simp only [List.getElem?_toArray, List.getElem?_cons_zero, List.getElem?_cons_succ] at x0 x1 x2 y0 y1 y2
            clear hH
            go_wp2_with (fail)
            refine bodyPost_ret (by simp [results, Tryz.results15, go_sem, *]; try with_reducible rfl) rfl ?_
            refine ⟨?_, by rw [← hn.out]; exact hV.out.bel⟩
            rw [hkk.out]; rfl
          exact AllReadyH.nil
        exact AllReadyH.nil
      refine AllReadyH.cons rfl (fun K hK => ?_) ?_
      · clear hH
        have x0 := blkC hV.out.bE 0; have x1 := blkC hV.out.bE 1; have x2 := blkC hV.out.bE 2
        have f0 := blkF hV.out.bE
        simp only [List.getElem?_toArray, List.getElem?_cons_zero, List.getElem?_cons_succ] at x0 x1 x2
        go_simp
        clear x0 x1 x2 f0
        have hV1 : OfS w n (.cells #[.int .u8 a, .int .u8 b, .int .u8 c, .int .i32 d, .int .u8 f] 48 (0, 0)) (.cells #[.int .i64 (1 + a % 5), .int .i64 (b % 8), .int .i64 (1 + b / 8 % 3)] 39 (0, 0)) (.cells #[.int .i64 (1 + a % 5), .int .i64 (b % 8), .int .i64 (1 + b / 8 % 3)] 39 (0, 0)) (.cells #[.int .i64 0, .int .i64 0, .string ⟨#[]⟩] 50 (0, 0)) (((V2.setCell ⟨n + 1, 0, none⟩ (.int .i64 (1 + a % 5))).setCell ⟨n + 1, 1, none⟩ (.int .i64 (b % 8))).setCell ⟨n + 1, 2, none⟩ (.int .i64 (1 + b / 8 % 3))) := ((hV.out.setE (i := 0) (v := .int .i64 (1 + a % 5))).setE (i := 1) (v := .int .i64 (b % 8))).setE (i := 2) (v := .int .i64 (1 + b / 8 % 3))
        have hB1 : (((V2.setCell ⟨n + 1, 0, none⟩ (.int .i64 (1 + a % 5))).setCell ⟨n + 1, 1, none⟩ (.int .i64 (b % 8))).setCell ⟨n + 1, 2, none⟩ (.int .i64 (1 + b / 8 % 3))).heap[R]? = some (.cells #[.int .u8 (97 + c % 26)] 5 (0, 0)) := by rw [hpFar (by have := hRn.out; simp; omega), hpFar (by have := hRn.out; simp; omega), hpFar (by have := hRn.out; simp; omega)]; exact hB.out
        clear hB; have hB := Lib.hid hB1; clear hB1
        clear hV; have hV := Lib.hid hV1; clear hV1
        generalize (((V2.setCell ⟨n + 1, 0, none⟩ (.int .i64 (1 + a % 5))).setCell ⟨n + 1, 1, none⟩ (.int .i64 (b % 8))).setCell ⟨n + 1, 2, none⟩ (.int .i64 (1 + b / 8 % 3))) = V3 at *
        refine hK.out _ _ ⟨hV.out.b0, hV.out.b3⟩ (fun hH => ?_)
        clear hK K
        refine wpAnyH_ready (rs := [6]) (by kernel_rfl) (by simp) ?_
        refine AllReadyH.cons rfl (fun K hK => ?_) ?_
        · clear hH
          have x := let_conv hB.out
          go_simp
          clear x
          have hV1 := hV; clear hV; have hV := hV1; clear hV1
          generalize hVV : V3 = V4 at *
          clear hVV hB
          refine hK.out _ _ ⟨hV.out.b0, hV.out.b3⟩ (fun hH => ?_)
          clear hK K
          refine wpAnyH_take (i := 21) (v := ?_) rfl (by kernel_rfl) (by kernel_rfl) (by kernel_rfl) (fun _ _ _ h => h) (Or.inl ⟨by rfl, by intro w hSw; go_simp; first | done | with_reducible rfl⟩) hH ?_
          simp only [List.getElem_toArray, List.getElem_cons_succ, List.getElem_cons_zero, Act.put, List.setIfInBounds_toArray, List.set_cons_zero, List.set_cons_succ]
          refine wpAnyH_ready (rs := [22]) (by kernel_rfl) (by simp) ?_
          refine AllReadyH.cons rfl (fun K hK => ?_) ?_
          · clear hH
            have x0 := blkC hV.out.bR 0; have x1 := blkC hV.out.bR 1; have x2 := blkC hV.out.bR 2
            have f0 := blkF hV.out.bR
            simp only [List.getElem?_toArray, List.getElem?_cons_zero, List.getElem?_cons_succ] at x0 x1 x2
            go_simp
            clear x0 x1 x2 f0
            have hV1 : OfS w n (.cells #[.int .u8 a, .int .u8 b, .int .u8 c, .int .i32 d, .int .u8 f] 48 (0, 0)) (.cells #[.int .i64 (1 + a % 5), .int .i64 (b % 8), .int .i64 (1 + b / 8 % 3)] 39 (0, 0)) (.cells #[.int .i64 (1 + a % 5), .int .i64 (b % 8), .int .i64 (1 + b / 8 % 3)] 39 (0, 0)) (.cells #[.int .i64 (f % 19), .int .i64 d, .string ⟨(Lib.repeatL [120] (f % 4).toNat).toArray⟩] 50 (0, 0)) (((V4.setCell ⟨n + 1 + 1, 0, none⟩ (.int .i64 (f % 19))).setCell ⟨n + 1 + 1, 1, none⟩ (.int .i64 d)).setCell ⟨n + 1 + 1, 2, none⟩ (.string ⟨(Lib.repeatL [120] (f % 4).toNat).toArray⟩)) := ((hV.out.setR (i := 0) (v := .int .i64 (f % 19))).setR (i := 1) (v := .int .i64 d)).setR (i := 2) (v := .string ⟨(Lib.repeatL [120] (f % 4).toNat).toArray⟩)
            clear hV; have hV := Lib.hid hV1; clear hV1
            generalize (((V4.setCell ⟨n + 1 + 1, 0, none⟩ (.int .i64 (f % 19))).setCell ⟨n + 1 + 1, 1, none⟩ (.int .i64 d)).setCell ⟨n + 1 + 1, 2, none⟩ (.string ⟨(Lib.repeatL [120] (f % 4).toNat).toArray⟩)) = V5 at *
            refine hK.out _ _ ⟨hV.out.b0, hV.out.b3⟩ (fun hH => ?_)
            clear hK K
            refine wpAnyH_done (by kernel_rfl) ?_ _
            have x0 := blkC hV.out.bE 0; have x1 := blkC hV.out.bE 1; have x2 := blkC hV.out.bE 2
            have y0 := blkC hV.out.bR 0; have y1 := blkC hV.out.bR 1; have y2 := blkC hV.out.bR 2
            simp only [List.getElem?_toArray, List.getElem?_cons_zero, List.getElem?_cons_succ] at x0 x1 x2 y0 y1 y2
            clear hH
            go_wp2_with (fail)
            refine bodyPost_ret (by simp [results, Tryz.results15, go_sem, *]; try with_reducible rfl) rfl ?_
            refine ⟨?_, by rw [← hn.out]; exact hV.out.bel⟩
            rw [hkk.out]; rfl
          exact AllReadyH.nil
        exact AllReadyH.nil
      exact AllReadyH.nil
    refine AllReadyH.cons rfl (fun K hK => ?_) ?_
    · clear hH
      have x0 := blkC hV.out.bE 0; have x1 := blkC hV.out.bE 1; have x2 := blkC hV.out.bE 2
      have f0 := blkF hV.out.bE
      simp only [List.getElem?_toArray, List.getElem?_cons_zero, List.getElem?_cons_succ] at x0 x1 x2
      go_simp
      clear x0 x1 x2 f0
      have hV1 : OfS w n (.cells #[.int .u8 a, .int .u8 b, .int .u8 c, .int .i32 d, .int .u8 f] 48 (0, 0)) (.cells #[.int .i64 (1 + a % 5), .int .i64 (b % 8), .int .i64 (1 + b / 8 % 3)] 39 (0, 0)) (.cells #[.int .i64 (1 + a % 5), .int .i64 (b % 8), .int .i64 (1 + b / 8 % 3)] 39 (0, 0)) (.cells #[.int .i64 0, .int .i64 0, .string ⟨#[]⟩] 50 (0, 0)) (((V1.setCell ⟨n + 1, 0, none⟩ (.int .i64 (1 + a % 5))).setCell ⟨n + 1, 1, none⟩ (.int .i64 (b % 8))).setCell ⟨n + 1, 2, none⟩ (.int .i64 (1 + b / 8 % 3))) := ((hV.out.setE (i := 0) (v := .int .i64 (1 + a % 5))).setE (i := 1) (v := .int .i64 (b % 8))).setE (i := 2) (v := .int .i64 (1 + b / 8 % 3))
      clear hV; have hV := Lib.hid hV1; clear hV1
      generalize (((V1.setCell ⟨n + 1, 0, none⟩ (.int .i64 (1 + a % 5))).setCell ⟨n + 1, 1, none⟩ (.int .i64 (b % 8))).setCell ⟨n + 1, 2, none⟩ (.int .i64 (1 + b / 8 % 3))) = V2 at *
      refine hK.out _ _ ⟨hV.out.b0, hV.out.b3⟩ (fun hH => ?_)
      clear hK K
      refine wpAnyH_ready (rs := [5]) (by kernel_rfl) (by simp) ?_
      refine AllReadyH.cons rfl (fun K hK => ?_) ?_
      · clear hH
        have hb3 := Lib.hid hV.out.b3
        have bb := (Below.refl _ V2).alloc (Nat.le_refl _) (.cells #[.int .u8 (97 + c % 26)] 5)
        have hB := Lib.hid (hpNew V2 (.cells #[.int .u8 (97 + c % 26)] 5))
        go_simp
        have hV1 := Lib.hid (hV.out.below bb)
        clear hV; have hV := hV1; clear hV1
        clear bb
        obtain ⟨R, hRR⟩ : ∃ R, R = V2.heap.size := ⟨_, rfl⟩
        rw [← hRR] at hB ⊢
        have hRn := Lib.hid (show n + 1 + 1 < R from by rw [hRR]; have := blkX hb3.out; omega)
        clear hRR hb3
        generalize V2.alloc (.cells #[.int .u8 (97 + c % 26)] 5) = V3 at *
        refine hK.out _ _ ⟨hV.out.b0, hV.out.b3⟩ (fun hH => ?_)
        clear hK K
        clear V2
        refine wpAnyH_ready (rs := [6]) (by kernel_rfl) (by simp) ?_
        refine AllReadyH.cons rfl (fun K hK => ?_) ?_
        · clear hH
          have x := let_conv hB.out
          go_simp
          clear x
          have hV1 := hV; clear hV; have hV := hV1; clear hV1
          generalize hVV : V3 = V4 at *
          clear hVV hB
          refine hK.out _ _ ⟨hV.out.b0, hV.out.b3⟩ (fun hH => ?_)
          clear hK K
          refine wpAnyH_take (i := 21) (v := ?_) rfl (by kernel_rfl) (by kernel_rfl) (by kernel_rfl) (fun _ _ _ h => h) (Or.inl ⟨by rfl, by intro w hSw; go_simp; first | done | with_reducible rfl⟩) hH ?_
          simp only [List.getElem_toArray, List.getElem_cons_succ, List.getElem_cons_zero, Act.put, List.setIfInBounds_toArray, List.set_cons_zero, List.set_cons_succ]
          refine wpAnyH_ready (rs := [22]) (by kernel_rfl) (by simp) ?_
          refine AllReadyH.cons rfl (fun K hK => ?_) ?_
          · clear hH
            have x0 := blkC hV.out.bR 0; have x1 := blkC hV.out.bR 1; have x2 := blkC hV.out.bR 2
            have f0 := blkF hV.out.bR
            simp only [List.getElem?_toArray, List.getElem?_cons_zero, List.getElem?_cons_succ] at x0 x1 x2
            go_simp
            clear x0 x1 x2 f0
            have hV1 : OfS w n (.cells #[.int .u8 a, .int .u8 b, .int .u8 c, .int .i32 d, .int .u8 f] 48 (0, 0)) (.cells #[.int .i64 (1 + a % 5), .int .i64 (b % 8), .int .i64 (1 + b / 8 % 3)] 39 (0, 0)) (.cells #[.int .i64 (1 + a % 5), .int .i64 (b % 8), .int .i64 (1 + b / 8 % 3)] 39 (0, 0)) (.cells #[.int .i64 (f % 19), .int .i64 d, .string ⟨(Lib.repeatL [120] (f % 4).toNat).toArray⟩] 50 (0, 0)) (((V4.setCell ⟨n + 1 + 1, 0, none⟩ (.int .i64 (f % 19))).setCell ⟨n + 1 + 1, 1, none⟩ (.int .i64 d)).setCell ⟨n + 1 + 1, 2, none⟩ (.string ⟨(Lib.repeatL [120] (f % 4).toNat).toArray⟩)) := ((hV.out.setR (i := 0) (v := .int .i64 (f % 19))).setR (i := 1) (v := .int .i64 d)).setR (i := 2) (v := .string ⟨(Lib.repeatL [120] (f % 4).toNat).toArray⟩)
            clear hV; have hV := Lib.hid hV1; clear hV1
            generalize (((V4.setCell ⟨n + 1 + 1, 0, none⟩ (.int .i64 (f % 19))).setCell ⟨n + 1 + 1, 1, none⟩ (.int .i64 d)).setCell ⟨n + 1 + 1, 2, none⟩ (.string ⟨(Lib.repeatL [120] (f % 4).toNat).toArray⟩)) = V5 at *
            refine hK.out _ _ ⟨hV.out.b0, hV.out.b3⟩ (fun hH => ?_)
            clear hK K
            refine wpAnyH_done (by kernel_rfl) ?_ _
            have x0 := blkC hV.out.bE 0; have x1 := blkC hV.out.bE 1; have x2 := blkC hV.out.bE 2
            have y0 := blkC hV.out.bR 0; have y1 := blkC hV.out.bR 1; have y2 := blkC hV.out.bR 2
            simp only [List.getElem?_toArray, List.getElem?_cons_zero, List.getElem?_cons_succ] at x0 x1 x2 y0 y1 y2
            clear hH
            go_wp2_with (fail)
            refine bodyPost_ret (by simp [results, Tryz.results15, go_sem, *]; try with_reducible rfl) rfl ?_
            refine ⟨?_, by rw [← hn.out]; exact hV.out.bel⟩
            rw [hkk.out]; rfl
          exact AllReadyH.nil
        exact AllReadyH.nil
      exact AllReadyH.nil
    exact AllReadyH.nil
  exact AllReadyH.nil
end Go.Proofs.YtkdfhackpmdgfaaGreatDoor
