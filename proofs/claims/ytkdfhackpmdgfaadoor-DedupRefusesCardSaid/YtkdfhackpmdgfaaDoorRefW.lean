/- The walk of DedupRefuses. -/
import Derived.Test.YtkdfhackpmdgfaaDoorEr
import Derived.Test.YtkdfhackpmdgfaaDoorRefP
namespace Go.Proofs.YtkdfhackpmdgfaaDoor
open Go.RowKit Go.Shelf
set_option linter.unusedSimpArgs false
set_option linter.unusedVariables false
set_option linter.unusedSectionVars false
set_option maxRecDepth 10000
def encP3 (x : En) : List Value := [.int .i64 x.e.1, .int .i64 x.e.2.1, .int .i64 x.e.2.2, .string x.k, .int .i64 x.r.1, .int .i64 x.r.2.1, .string x.r.2.2]
theorem encP3_len (x : En) : (encP3 x).length = 7 := rfl
def encG (g : Rg) : List Value := [.string g.1, .string g.2]
theorem encG_len (g : Rg) : (encG g).length = 2 := rfl
theorem lrg_any (c : UInt8) (k : Nat) (hk : k ≤ 100000) (W : World) : Calls Tryd.prog 28 #[.string ⟨#[c]⟩, .int .i64 k] W fun e w' => e = .returned (.string (lrg c k)) ∧ Below W.heap.size W w' :=
  Tryd.strings_Repeat ⟨#[c]⟩ k W (by omega) (by show 1 * k ≤ _; omega)
theorem row_of {α : Type} {enc : α → List Value} {k : Nat} (hk : ∀ x, (enc x).length = k) (W : World) (T : TypeId) (l : List α) (cs : Array Value) (h : cs.toList = flat enc l) (hm : l.length ≤ 1000) (hp : 0 < k) : SL enc k (W.alloc (.cells cs T)) (some ⟨W.heap.size, 0, none⟩) l.length l := by
  have hl : cs.size = l.length * k := by rw [← Array.length_toList (xs := cs), h, flat_length hk]
  exact SL.of_own (base := 0) (c := l.length) hk (own_mk (Nat.zero_le _) (hpNew W _) (Nat.le_refl _) (by unfold maxLen; omega) hl (by rw [flat_length hk]) (by rw [h, List.take_of_length_le (by rw [flat_length hk]; omega)])) rfl
theorem alloc_gen {α : Type} {enc : α → List Value} {k : Nat} {Kk : World → Prop} {V : World} {cs : Array Value} {T : TypeId} (hk : ∀ x, (enc x).length = k) (l : List α) (h : cs.toList = flat enc l) (hm : l.length ≤ 1000) (hp : 0 < k)
    (H : ∀ U, SL enc k U (some ⟨V.heap.size, 0, none⟩) l.length l → (∃ cs, U.heap[V.heap.size]? = some (.cells cs T (0, 0))) → Below V.heap.size V U → Kk U) : Kk (V.alloc (.cells cs T)) :=
  H _ (row_of hk V T l cs h hm hp) ⟨cs, hpNew V _⟩ ((Below.refl _ V).alloc (Nat.le_refl _) _)
/-- A row of its own. -/
structure RW {α : Type} (enc : α → List Value) (k : Nat) (T : TypeId) (W : World) (R n : Nat) (l : List α) : Prop where
  sl : SL enc k W (some ⟨R, 0, none⟩) n l
  bl : ∃ cs, W.heap[R]? = some (.cells cs T (0, 0))
/-- A row that stays beside a table. -/
theorem SL.rows {α : Type} {enc : α → List Value} {k : Nat} {w w' : World} {A : Option Addr} {n : Nat} {l : List α} (h : SL enc k w A n l) (hk : ∀ g, rowOf A = some g → w'.heap[g]? = w.heap[g]?) : SL enc k w' A n l := by
  refine ⟨h.1, fun hn => ?_⟩
  obtain ⟨b, o, e, hl, hc⟩ := h.2 hn
  have hb := hk b (by rw [e]; rfl)
  have hl' : b < w'.heap.size := by
    rcases Nat.lt_or_ge b w'.heap.size with q | q
    · exact q
    · rw [Array.getElem?_eq_none q, Array.getElem?_eq_getElem hl] at hb; cases hb
  exact ⟨b, o, e, hl', fun i x hx j u hu => (World.cell?_of_block (w := w) (a := ⟨b, _, none⟩) hb).trans (hc i x hx j u hu)⟩
theorem RW.below {α : Type} {enc : α → List Value} {k : Nat} {T : TypeId} {W W' : World} {R n : Nat} {l : List α} (h : RW enc k T W R n l) (hb : Below W.heap.size W W') : RW enc k T W' R n l :=
  ⟨SL.keep h.sl hb, by obtain ⟨cs, hh⟩ := h.bl; exact ⟨cs, (hb.block R (blkX hh)).trans hh⟩⟩
theorem RW.kp {α : Type} {enc : α → List Value} {k : Nat} {T : TypeId} {W W' : World} {R n : Nat} {l : List α} {base D : Nat} {size : Int} {P : List En} {w0 : World} (h : RW enc k T W R n l) (Tb : Tb base w0 D size P W) (hk : Kp D W W') (h1 : T ≠ 52) (h2 : T ≠ 89) : RW enc k T W' R n l := by
  obtain ⟨cs, hh⟩ := h.bl
  have hD : R ≠ D := by
    rintro rfl
    obtain ⟨A', c, ht⟩ := Tb.tab
    have := ht.blk
    rw [hh] at this
    injection this with this
    injection this with _ this
    exact h1 this
  have := hk R cs _ _ hh hD h2
  exact ⟨h.sl.rows fun g hg => by obtain rfl : R = g := by simpa [rowOf] using hg
                                  exact this.trans hh.symm, ⟨cs, this⟩⟩
theorem RW.at_ {α : Type} {enc : α → List Value} {k : Nat} {T : TypeId} {W : World} {R n : Nat} {l : List α} (h : RW enc k T W R n l) {i : Nat} (hi : i < n) : ∃ x, l[i]? = some x ∧ ∀ (j : Nat) (u : Value), (enc x)[j]? = some u → W.cell? ⟨R, i * k + j, none⟩ = some u := by
  obtain ⟨b, o, x, e, _, hx, hc⟩ := h.sl.at_ hi
  injection e with e
  injection e with e1 e2
  subst e1 e2
  exact ⟨x, hx, fun j u hu => by have := hc j u hu; rwa [Nat.zero_add] at this⟩
set_option maxHeartbeats 32000000 in
theorem refuses_walk {A : Option Addr} {n c : Nat} {ms : List Mo} (a f : Int) (h0 : 0 ≤ a) (h1 : a ≤ 255) (f0 : 0 ≤ f) (f1 : f ≤ 65535) (w : World) (hA : MS w A n ms) (hm : ∀ m ∈ ms, okM m) (hc : n ≤ c) (hn : n ≤ 140737488355328) : Calls Tryd.prog 6 #[.int .u8 a, .slice A n c, .int .u16 f] w fun e w' => e = .returned (.bool true) ∧ Below w.heap.size w w' := by
  have hfi := filled_any (size := a % 64) w hA hm hc hn (by omega) (by omega)
  clear hA hm
  have e1 : IntKind.i64.wrap (-f) = -f := by simp [IntKind.wrap, IntKind.signed, IntKind.bits]; omega
  have e2 : IntKind.i64.wrap (10000 + f) = 10000 + f := by simp [IntKind.wrap, IntKind.signed, IntKind.bits]; omega
  have e3 : IntKind.i64.wrap (8 + f) = 8 + f := by simp [IntKind.wrap, IntKind.signed, IntKind.bits]; omega
  have e4 : IntKind.i64.wrap (4 + f) = 4 + f := by simp [IntKind.wrap, IntKind.signed, IntKind.bits]; omega
  have e5 : f.tmod 9 = f % 9 := Int.tmod_eq_emod_of_nonneg f0
  have e6 : IntKind.i64.wrap (17 + f % 9) = 17 + f % 9 := by simp [IntKind.wrap, IntKind.signed, IntKind.bits]; omega
  have e7 : IntKind.i64.wrap (19 + f) = 19 + f := by simp [IntKind.wrap, IntKind.signed, IntKind.bits]; omega
  have e8 : IntKind.i64.wrap (-1 - f) = -1 - f := by simp [IntKind.wrap, IntKind.signed, IntKind.bits]; omega
  have e9 : IntKind.i64.wrap (1152921504606846977 + f) = 1152921504606846977 + f := by simp [IntKind.wrap, IntKind.signed, IntKind.bits]; omega
  have e10 : IntKind.i64.wrap (-1152921504606846977 - f) = -1152921504606846977 - f := by simp [IntKind.wrap, IntKind.signed, IntKind.bits]; omega
  obtain ⟨kk, hkk⟩ : ∃ kk, kk = lrg 97 (17 + f % 9).toNat := ⟨_, rfl⟩
  have hrep : ∀ W, Calls Tryd.prog 28 #[.string ⟨#[97]⟩, .int .i64 (17 + f % 9)] W fun e w' => e = .returned (.string kk) ∧ Below W.heap.size W w' := by
    intro W
    have := lrg_any 97 (17 + f % 9).toNat (by omega) W
    rwa [show (((17 + f % 9).toNat : Nat) : Int) = 17 + f % 9 from by omega, ← hkk] at this
  have hbad : ∀ x ∈ badX f kk, okP x = false ∧ x.k.size ≤ 140737488355328 := by
    intro x hx
    rw [hkk] at hx
    have := badE_bad f0 x hx
    exact ⟨this.1, by omega⟩
  have hr1 : ∀ W, Calls Tryd.prog 28 #[.string ⟨#[97]⟩, .int .i64 17] W fun e w' => e = .returned (.string (lrg 97 17)) ∧ Below W.heap.size W w' := fun W => lrg_any 97 17 (by omega) W
  have hr2 : ∀ W, Calls Tryd.prog 28 #[.string ⟨#[99]⟩, .int .i64 17] W fun e w' => e = .returned (.string (lrg 99 17)) ∧ Below W.heap.size W w' := fun W => lrg_any 99 17 (by omega) W
  replace hkk := Lib.hid hkk; replace hbad := Lib.hid hbad
  go_enter Tryd.func6, Tryd.ntmps6
  go_wp2_with (fail)
  refine hfi.mono ?_
  rintro e w1 ⟨D, B, P, Q, rfl, T1, M1, hF, hB, hQ⟩
  have hal := T1.all
  replace T1 := Lib.hid T1
  clear hfi M1 hF hB hQ
  go_wp2_with (fail)
  refine hal.mono ?_
  rintro e w2 ⟨L, m, d, rfl, rfl, E2, R2, T2, b2⟩
  have L2 : ER w2 L P.length (P.map En.e) := ⟨E2, fun g hg => (R2 g hg).2⟩
  clear hal E2 R2 T1 b2
  have bb := (Below.refl _ w2).alloc (Nat.le_refl _) (.cells #[.int .i64 9, .int .i64 1, .int .i64 1] 23)
  have hg := hpNew w2 (.cells #[.int .i64 9, .int .i64 1, .int .i64 1] 23)
  have T3 := Lib.hid (T2.below bb)
  have L3 := Lib.hid (L2.below bb)
  obtain ⟨w3, hw3⟩ : ∃ x, x = w2.alloc (.cells #[.int .i64 9, .int .i64 1, .int .i64 1] 23) := ⟨_, rfl⟩
  obtain ⟨g, hgg⟩ : ∃ x, x = w2.heap.size := ⟨_, rfl⟩
  rw [← hw3, ← hgg] at hg
  rw [← hw3] at T3 L3
  replace hg := Lib.hid hg
  clear T2 L2 bb
  have hPl : P.length ≤ 2048 := by obtain ⟨A', c', ht⟩ := T3.out.tab; have := ht.le; have := ht.sz; omega
  go_wp2_with (fail)
  rw [← hw3, ← hgg]
  replace hw3 := Lib.hid hw3; replace hgg := Lib.hid hgg
  have hSv : ∀ W : World, W.heap[g]? = some (.cells #[.int .i64 9, .int .i64 1, .int .i64 1] 23 (0, 0)) → (fun w' : World => w'.cell? ⟨g, 0, none⟩ = some (.int .i64 9) ∧ w'.cell? ⟨g, 1, none⟩ = some (.int .i64 1) ∧ w'.cell? ⟨g, 2, none⟩ = some (.int .i64 1)) W := by
    intro W hb
    have z0 := blkC hb 0; have z1 := blkC hb 1; have z2 := blkC hb 2
    simp only [List.getElem?_toArray, List.getElem?_cons_zero, List.getElem?_cons_succ] at z0 z1 z2
    exact ⟨z0, z1, z2⟩
  replace hSv := Lib.hid hSv
  refine wp_region_held_drew (S := (fun w' : World => w'.cell? ⟨g, 0, none⟩ = some (.int .i64 9) ∧ w'.cell? ⟨g, 1, none⟩ = some (.int .i64 1) ∧ w'.cell? ⟨g, 2, none⟩ = some (.int .i64 1))) (by kernel_rfl) ?_ (fun hH => ?_)
  · exact hSv.out _ hg.out
  refine wpAnyH_take (i := 0) (v := ?_) rfl (by kernel_rfl) (by kernel_rfl) (by kernel_rfl) (fun _ _ _ h => h) (Or.inl ⟨by rfl, by intro w hSw; go_simp; first | done | with_reducible rfl⟩) hH ?_
  simp only [List.getElem_toArray, List.getElem_cons_succ, List.getElem_cons_zero, Act.put, List.setIfInBounds_toArray, List.set_cons_zero, List.set_cons_succ]
  refine wpAnyH_take (i := 1) (v := ?_) rfl (by kernel_rfl) (by kernel_rfl) (by kernel_rfl) (fun _ _ _ h => h) (Or.inl ⟨by rfl, by intro w hSw; go_simp; first | done | with_reducible rfl⟩) hH ?_
  simp only [List.getElem_toArray, List.getElem_cons_succ, List.getElem_cons_zero, Act.put, List.setIfInBounds_toArray, List.set_cons_zero, List.set_cons_succ]
  refine wpAnyH_take (i := 2) (v := ?_) rfl (by kernel_rfl) (by kernel_rfl) (by kernel_rfl) (fun _ _ _ h => h) (Or.inl ⟨by rfl, by intro w hSw; go_simp; first | done | with_reducible rfl⟩) hH ?_
  simp only [List.getElem_toArray, List.getElem_cons_succ, List.getElem_cons_zero, Act.put, List.setIfInBounds_toArray, List.set_cons_zero, List.set_cons_succ]
  refine wpAnyH_take (i := 3) (v := ?_) rfl (by kernel_rfl) (by kernel_rfl) (by kernel_rfl) (fun _ _ _ h => h) (Or.inl ⟨by rfl, by intro w hSw; go_simp; first | done | with_reducible rfl⟩) hH ?_
  simp only [List.getElem_toArray, List.getElem_cons_succ, List.getElem_cons_zero, Act.put, List.setIfInBounds_toArray, List.set_cons_zero, List.set_cons_succ]
  refine wpAnyH_take (i := 4) (v := ?_) rfl (by kernel_rfl) (by kernel_rfl) (by kernel_rfl) (fun _ _ _ h => h) (Or.inl ⟨by rfl, by intro w hSw; go_simp; first | done | with_reducible rfl⟩) hH ?_
  simp only [List.getElem_toArray, List.getElem_cons_succ, List.getElem_cons_zero, Act.put, List.setIfInBounds_toArray, List.set_cons_zero, List.set_cons_succ]
  refine wpAnyH_take (i := 5) (v := ?_) rfl (by kernel_rfl) (by kernel_rfl) (by kernel_rfl) (fun _ _ _ h => h) (Or.inl ⟨by rfl, by intro w hSw; go_simp; first | done | with_reducible rfl⟩) hH ?_
  simp only [List.getElem_toArray, List.getElem_cons_succ, List.getElem_cons_zero, Act.put, List.setIfInBounds_toArray, List.set_cons_zero, List.set_cons_succ]
  refine wpAnyH_take (i := 6) (v := ?_) rfl (by kernel_rfl) (by kernel_rfl) (by kernel_rfl) (fun _ _ _ h => h) (Or.inl ⟨by rfl, by intro w hSw; go_simp; first | done | with_reducible rfl⟩) hH ?_
  simp only [List.getElem_toArray, List.getElem_cons_succ, List.getElem_cons_zero, Act.put, List.setIfInBounds_toArray, List.set_cons_zero, List.set_cons_succ]
  refine wpAnyH_take (i := 7) (v := ?_) rfl (by kernel_rfl) (by kernel_rfl) (by kernel_rfl) (fun _ _ _ h => h) (Or.inl ⟨by rfl, by intro w hSw; go_simp; first | done | with_reducible rfl⟩) hH ?_
  simp only [List.getElem_toArray, List.getElem_cons_succ, List.getElem_cons_zero, Act.put, List.setIfInBounds_toArray, List.set_cons_zero, List.set_cons_succ]
  refine wpAnyH_take (i := 8) (v := ?_) rfl (by kernel_rfl) (by kernel_rfl) (by kernel_rfl) (fun _ _ _ h => h) (Or.inl ⟨by rfl, by intro w hSw; go_simp; first | done | with_reducible rfl⟩) hH ?_
  simp only [List.getElem_toArray, List.getElem_cons_succ, List.getElem_cons_zero, Act.put, List.setIfInBounds_toArray, List.set_cons_zero, List.set_cons_succ]
  refine wpAnyH_take (i := 9) (v := ?_) rfl (by kernel_rfl) (by kernel_rfl) (by kernel_rfl) (fun _ _ _ h => h) (Or.inl ⟨by rfl, by intro w hSw; go_simp; first | done | with_reducible rfl⟩) hH ?_
  simp only [List.getElem_toArray, List.getElem_cons_succ, List.getElem_cons_zero, Act.put, List.setIfInBounds_toArray, List.set_cons_zero, List.set_cons_succ]
  refine wpAnyH_take (i := 10) (v := ?_) rfl (by kernel_rfl) (by kernel_rfl) (by kernel_rfl) (fun _ _ _ h => h) (Or.inl ⟨by rfl, by intro w hSw; go_simp; first | done | with_reducible rfl⟩) hH ?_
  simp only [List.getElem_toArray, List.getElem_cons_succ, List.getElem_cons_zero, Act.put, List.setIfInBounds_toArray, List.set_cons_zero, List.set_cons_succ]
  refine wpAnyH_take (i := 11) (v := ?_) rfl (by kernel_rfl) (by kernel_rfl) (by kernel_rfl) (fun _ _ _ h => h) (Or.inl ⟨by rfl, by intro w hSw; go_simp; first | done | with_reducible rfl⟩) hH ?_
  simp only [List.getElem_toArray, List.getElem_cons_succ, List.getElem_cons_zero, Act.put, List.setIfInBounds_toArray, List.set_cons_zero, List.set_cons_succ]
  refine wpAnyH_take (i := 12) (v := ?_) rfl (by kernel_rfl) (by kernel_rfl) (by kernel_rfl) (fun _ _ _ h => h) (Or.inl ⟨by rfl, by intro w hSw; go_simp; first | done | with_reducible rfl⟩) hH ?_
  simp only [List.getElem_toArray, List.getElem_cons_succ, List.getElem_cons_zero, Act.put, List.setIfInBounds_toArray, List.set_cons_zero, List.set_cons_succ]
  refine wpAnyH_take (i := 13) (v := ?_) rfl (by kernel_rfl) (by kernel_rfl) (by kernel_rfl) (fun _ _ _ h => h) (Or.inl ⟨by rfl, by intro w hSw; go_simp; first | done | with_reducible rfl⟩) hH ?_
  simp only [List.getElem_toArray, List.getElem_cons_succ, List.getElem_cons_zero, Act.put, List.setIfInBounds_toArray, List.set_cons_zero, List.set_cons_succ]
  refine wpAnyH_take (i := 14) (v := ?_) rfl (by kernel_rfl) (by kernel_rfl) (by kernel_rfl) (fun _ _ _ h => h) (Or.inl ⟨by rfl, by intro w hSw; go_simp; first | done | with_reducible rfl⟩) hH ?_
  simp only [List.getElem_toArray, List.getElem_cons_succ, List.getElem_cons_zero, Act.put, List.setIfInBounds_toArray, List.set_cons_zero, List.set_cons_succ]
  refine wpAnyH_take (i := 15) (v := ?_) rfl (by kernel_rfl) (by kernel_rfl) (by kernel_rfl) (fun _ _ _ h => h) (Or.inl ⟨by rfl, by intro w hSw; go_simp; first | done | with_reducible rfl⟩) hH ?_
  simp only [List.getElem_toArray, List.getElem_cons_succ, List.getElem_cons_zero, Act.put, List.setIfInBounds_toArray, List.set_cons_zero, List.set_cons_succ]
  refine wpAnyH_take (i := 16) (v := ?_) rfl (by kernel_rfl) (by kernel_rfl) (by kernel_rfl) (fun _ _ _ h => h) (Or.inl ⟨by rfl, by intro w hSw; go_simp; first | done | with_reducible rfl⟩) hH ?_
  simp only [List.getElem_toArray, List.getElem_cons_succ, List.getElem_cons_zero, Act.put, List.setIfInBounds_toArray, List.set_cons_zero, List.set_cons_succ]
  refine wpAnyH_take (i := 17) (v := ?_) rfl (by kernel_rfl) (by kernel_rfl) (by kernel_rfl) (fun _ _ _ h => h) (Or.inl ⟨by rfl, by intro w hSw; go_simp; first | done | with_reducible rfl⟩) hH ?_
  simp only [List.getElem_toArray, List.getElem_cons_succ, List.getElem_cons_zero, Act.put, List.setIfInBounds_toArray, List.set_cons_zero, List.set_cons_succ]
  refine wpAnyH_take (i := 18) (v := ?_) rfl (by kernel_rfl) (by kernel_rfl) (by kernel_rfl) (fun _ _ _ h => h) (Or.inl ⟨by rfl, by intro w hSw; go_simp; first | done | with_reducible rfl⟩) hH ?_
  simp only [List.getElem_toArray, List.getElem_cons_succ, List.getElem_cons_zero, Act.put, List.setIfInBounds_toArray, List.set_cons_zero, List.set_cons_succ]
  refine wpAnyH_take (i := 19) (v := ?_) rfl (by kernel_rfl) (by kernel_rfl) (by kernel_rfl) (fun _ _ _ h => h) (Or.inl ⟨by rfl, by intro w hSw; go_simp; first | done | with_reducible rfl⟩) hH ?_
  simp only [List.getElem_toArray, List.getElem_cons_succ, List.getElem_cons_zero, Act.put, List.setIfInBounds_toArray, List.set_cons_zero, List.set_cons_succ]
  refine wpAnyH_take (i := 20) (v := ?_) rfl (by kernel_rfl) (by kernel_rfl) (by kernel_rfl) (fun _ _ _ h => h) (Or.inl ⟨by rfl, by intro w hSw; obtain ⟨s0, s1, s2⟩ := hSw; go_simp; first | done | with_reducible rfl⟩) hH ?_
  simp only [List.getElem_toArray, List.getElem_cons_succ, List.getElem_cons_zero, Act.put, List.setIfInBounds_toArray, List.set_cons_zero, List.set_cons_succ]
  refine wpAnyH_take (i := 21) (v := ?_) rfl (by kernel_rfl) (by kernel_rfl) (by kernel_rfl) (fun _ _ _ h => h) (Or.inl ⟨by rfl, by intro w hSw; go_simp; first | done | with_reducible rfl⟩) hH ?_
  simp only [List.getElem_toArray, List.getElem_cons_succ, List.getElem_cons_zero, Act.put, List.setIfInBounds_toArray, List.set_cons_zero, List.set_cons_succ]
  refine wpAnyH_take (i := 22) (v := ?_) rfl (by kernel_rfl) (by kernel_rfl) (by kernel_rfl) (fun _ _ _ h => h) (Or.inl ⟨by rfl, by intro w hSw; go_simp; first | done | with_reducible rfl⟩) hH ?_
  simp only [List.getElem_toArray, List.getElem_cons_succ, List.getElem_cons_zero, Act.put, List.setIfInBounds_toArray, List.set_cons_zero, List.set_cons_succ]
  refine wpAnyH_take (i := 23) (v := ?_) rfl (by kernel_rfl) (by kernel_rfl) (by kernel_rfl) (fun _ _ _ h => h) (Or.inl ⟨by rfl, by intro w hSw; obtain ⟨s0, s1, s2⟩ := hSw; go_simp; first | done | with_reducible rfl⟩) hH ?_
  simp only [List.getElem_toArray, List.getElem_cons_succ, List.getElem_cons_zero, Act.put, List.setIfInBounds_toArray, List.set_cons_zero, List.set_cons_succ]
  refine wpAnyH_take (i := 24) (v := ?_) rfl (by kernel_rfl) (by kernel_rfl) (by kernel_rfl) (fun _ _ _ h => h) (Or.inl ⟨by rfl, by intro w hSw; go_simp; first | done | with_reducible rfl⟩) hH ?_
  simp only [List.getElem_toArray, List.getElem_cons_succ, List.getElem_cons_zero, Act.put, List.setIfInBounds_toArray, List.set_cons_zero, List.set_cons_succ]
  refine wpAnyH_take (i := 25) (v := ?_) rfl (by kernel_rfl) (by kernel_rfl) (by kernel_rfl) (fun _ _ _ h => h) (Or.inl ⟨by rfl, by intro w hSw; go_simp; first | done | with_reducible rfl⟩) hH ?_
  simp only [List.getElem_toArray, List.getElem_cons_succ, List.getElem_cons_zero, Act.put, List.setIfInBounds_toArray, List.set_cons_zero, List.set_cons_succ]
  refine wpAnyH_take (i := 26) (v := ?_) rfl (by kernel_rfl) (by kernel_rfl) (by kernel_rfl) (fun _ _ _ h => h) (Or.inl ⟨by rfl, by intro w hSw; go_simp; first | done | with_reducible rfl⟩) hH ?_
  simp only [List.getElem_toArray, List.getElem_cons_succ, List.getElem_cons_zero, Act.put, List.setIfInBounds_toArray, List.set_cons_zero, List.set_cons_succ]
  refine wpAnyH_take (i := 28) (v := ?_) rfl (by kernel_rfl) (by kernel_rfl) (by kernel_rfl) (fun _ _ _ h => h) (Or.inl ⟨by rfl, by intro w hSw; go_simp; first | done | with_reducible rfl⟩) hH ?_
  simp only [List.getElem_toArray, List.getElem_cons_succ, List.getElem_cons_zero, Act.put, List.setIfInBounds_toArray, List.set_cons_zero, List.set_cons_succ]
  refine wpAnyH_take (i := 30) (v := ?_) rfl (by kernel_rfl) (by kernel_rfl) (by kernel_rfl) (fun _ _ _ h => h) (Or.inl ⟨by rfl, by intro w hSw; obtain ⟨s0, s1, s2⟩ := hSw; go_simp; first | done | with_reducible rfl⟩) hH ?_
  simp only [List.getElem_toArray, List.getElem_cons_succ, List.getElem_cons_zero, Act.put, List.setIfInBounds_toArray, List.set_cons_zero, List.set_cons_succ]
  refine wpAnyH_take (i := 31) (v := ?_) rfl (by kernel_rfl) (by kernel_rfl) (by kernel_rfl) (fun _ _ _ h => h) (Or.inl ⟨by rfl, by intro w hSw; go_simp; first | done | with_reducible rfl⟩) hH ?_
  simp only [List.getElem_toArray, List.getElem_cons_succ, List.getElem_cons_zero, Act.put, List.setIfInBounds_toArray, List.set_cons_zero, List.set_cons_succ]
  refine wpAnyH_take (i := 32) (v := ?_) rfl (by kernel_rfl) (by kernel_rfl) (by kernel_rfl) (fun _ _ _ h => h) (Or.inl ⟨by rfl, by intro w hSw; go_simp; first | done | with_reducible rfl⟩) hH ?_
  simp only [List.getElem_toArray, List.getElem_cons_succ, List.getElem_cons_zero, Act.put, List.setIfInBounds_toArray, List.set_cons_zero, List.set_cons_succ]
  refine wpAnyH_take (i := 33) (v := ?_) rfl (by kernel_rfl) (by kernel_rfl) (by kernel_rfl) (fun _ _ _ h => h) (Or.inl ⟨by rfl, by intro w hSw; obtain ⟨s0, s1, s2⟩ := hSw; go_simp; first | done | with_reducible rfl⟩) hH ?_
  simp only [List.getElem_toArray, List.getElem_cons_succ, List.getElem_cons_zero, Act.put, List.setIfInBounds_toArray, List.set_cons_zero, List.set_cons_succ]
  refine wpAnyH_take (i := 34) (v := ?_) rfl (by kernel_rfl) (by kernel_rfl) (by kernel_rfl) (fun _ _ _ h => h) (Or.inl ⟨by rfl, by intro w hSw; go_simp; first | done | with_reducible rfl⟩) hH ?_
  simp only [List.getElem_toArray, List.getElem_cons_succ, List.getElem_cons_zero, Act.put, List.setIfInBounds_toArray, List.set_cons_zero, List.set_cons_succ]
  refine wpAnyH_take (i := 35) (v := ?_) rfl (by kernel_rfl) (by kernel_rfl) (by kernel_rfl) (fun _ _ _ h => h) (Or.inl ⟨by rfl, by intro w hSw; go_simp; first | done | with_reducible rfl⟩) hH ?_
  simp only [List.getElem_toArray, List.getElem_cons_succ, List.getElem_cons_zero, Act.put, List.setIfInBounds_toArray, List.set_cons_zero, List.set_cons_succ]
  refine wpAnyH_take (i := 36) (v := ?_) rfl (by kernel_rfl) (by kernel_rfl) (by kernel_rfl) (fun _ _ _ h => h) (Or.inl ⟨by rfl, by intro w hSw; go_simp; first | done | with_reducible rfl⟩) hH ?_
  simp only [List.getElem_toArray, List.getElem_cons_succ, List.getElem_cons_zero, Act.put, List.setIfInBounds_toArray, List.set_cons_zero, List.set_cons_succ]
  refine wpAnyH_take (i := 37) (v := ?_) rfl (by kernel_rfl) (by kernel_rfl) (by kernel_rfl) (fun _ _ _ h => h) (Or.inl ⟨by rfl, by intro w hSw; go_simp; first | done | with_reducible rfl⟩) hH ?_
  simp only [List.getElem_toArray, List.getElem_cons_succ, List.getElem_cons_zero, Act.put, List.setIfInBounds_toArray, List.set_cons_zero, List.set_cons_succ]
  refine wpAnyH_take (i := 38) (v := ?_) rfl (by kernel_rfl) (by kernel_rfl) (by kernel_rfl) (fun _ _ _ h => h) (Or.inl ⟨by rfl, by intro w hSw; obtain ⟨s0, s1, s2⟩ := hSw; go_simp; first | done | with_reducible rfl⟩) hH ?_
  simp only [List.getElem_toArray, List.getElem_cons_succ, List.getElem_cons_zero, Act.put, List.setIfInBounds_toArray, List.set_cons_zero, List.set_cons_succ]
  refine wpAnyH_take (i := 39) (v := ?_) rfl (by kernel_rfl) (by kernel_rfl) (by kernel_rfl) (fun _ _ _ h => h) (Or.inl ⟨by rfl, by intro w hSw; go_simp; first | done | with_reducible rfl⟩) hH ?_
  simp only [List.getElem_toArray, List.getElem_cons_succ, List.getElem_cons_zero, Act.put, List.setIfInBounds_toArray, List.set_cons_zero, List.set_cons_succ]
  refine wpAnyH_take (i := 40) (v := ?_) rfl (by kernel_rfl) (by kernel_rfl) (by kernel_rfl) (fun _ _ _ h => h) (Or.inl ⟨by rfl, by intro w hSw; go_simp; first | done | with_reducible rfl⟩) hH ?_
  simp only [List.getElem_toArray, List.getElem_cons_succ, List.getElem_cons_zero, Act.put, List.setIfInBounds_toArray, List.set_cons_zero, List.set_cons_succ]
  refine wpAnyH_take (i := 41) (v := ?_) rfl (by kernel_rfl) (by kernel_rfl) (by kernel_rfl) (fun _ _ _ h => h) (Or.inl ⟨by rfl, by intro w hSw; go_simp; first | done | with_reducible rfl⟩) hH ?_
  simp only [List.getElem_toArray, List.getElem_cons_succ, List.getElem_cons_zero, Act.put, List.setIfInBounds_toArray, List.set_cons_zero, List.set_cons_succ]
  refine wpAnyH_take (i := 42) (v := ?_) rfl (by kernel_rfl) (by kernel_rfl) (by kernel_rfl) (fun _ _ _ h => h) (Or.inl ⟨by rfl, by intro w hSw; go_simp; first | done | with_reducible rfl⟩) hH ?_
  simp only [List.getElem_toArray, List.getElem_cons_succ, List.getElem_cons_zero, Act.put, List.setIfInBounds_toArray, List.set_cons_zero, List.set_cons_succ]
  refine wpAnyH_take (i := 43) (v := ?_) rfl (by kernel_rfl) (by kernel_rfl) (by kernel_rfl) (fun _ _ _ h => h) (Or.inl ⟨by rfl, by intro w hSw; obtain ⟨s0, s1, s2⟩ := hSw; go_simp; first | done | with_reducible rfl⟩) hH ?_
  simp only [List.getElem_toArray, List.getElem_cons_succ, List.getElem_cons_zero, Act.put, List.setIfInBounds_toArray, List.set_cons_zero, List.set_cons_succ]
  refine wpAnyH_take (i := 44) (v := ?_) rfl (by kernel_rfl) (by kernel_rfl) (by kernel_rfl) (fun _ _ _ h => h) (Or.inl ⟨by rfl, by intro w hSw; go_simp; first | done | with_reducible rfl⟩) hH ?_
  simp only [List.getElem_toArray, List.getElem_cons_succ, List.getElem_cons_zero, Act.put, List.setIfInBounds_toArray, List.set_cons_zero, List.set_cons_succ]
  refine wpAnyH_take (i := 45) (v := ?_) rfl (by kernel_rfl) (by kernel_rfl) (by kernel_rfl) (fun _ _ _ h => h) (Or.inl ⟨by rfl, by intro w hSw; go_simp; first | done | with_reducible rfl⟩) hH ?_
  simp only [List.getElem_toArray, List.getElem_cons_succ, List.getElem_cons_zero, Act.put, List.setIfInBounds_toArray, List.set_cons_zero, List.set_cons_succ]
  refine wpAnyH_take (i := 46) (v := ?_) rfl (by kernel_rfl) (by kernel_rfl) (by kernel_rfl) (fun _ _ _ h => h) (Or.inl ⟨by rfl, by intro w hSw; go_simp; first | done | with_reducible rfl⟩) hH ?_
  simp only [List.getElem_toArray, List.getElem_cons_succ, List.getElem_cons_zero, Act.put, List.setIfInBounds_toArray, List.set_cons_zero, List.set_cons_succ]
  refine wpAnyH_take (i := 47) (v := ?_) rfl (by kernel_rfl) (by kernel_rfl) (by kernel_rfl) (fun _ _ _ h => h) (Or.inl ⟨by rfl, by intro w hSw; go_simp; first | done | with_reducible rfl⟩) hH ?_
  simp only [List.getElem_toArray, List.getElem_cons_succ, List.getElem_cons_zero, Act.put, List.setIfInBounds_toArray, List.set_cons_zero, List.set_cons_succ]
  refine wpAnyH_take (i := 48) (v := ?_) rfl (by kernel_rfl) (by kernel_rfl) (by kernel_rfl) (fun _ _ _ h => h) (Or.inl ⟨by rfl, by intro w hSw; obtain ⟨s0, s1, s2⟩ := hSw; go_simp; first | done | with_reducible rfl⟩) hH ?_
  simp only [List.getElem_toArray, List.getElem_cons_succ, List.getElem_cons_zero, Act.put, List.setIfInBounds_toArray, List.set_cons_zero, List.set_cons_succ]
  refine wpAnyH_take (i := 49) (v := ?_) rfl (by kernel_rfl) (by kernel_rfl) (by kernel_rfl) (fun _ _ _ h => h) (Or.inl ⟨by rfl, by intro w hSw; go_simp; first | done | with_reducible rfl⟩) hH ?_
  simp only [List.getElem_toArray, List.getElem_cons_succ, List.getElem_cons_zero, Act.put, List.setIfInBounds_toArray, List.set_cons_zero, List.set_cons_succ]
  refine wpAnyH_take (i := 50) (v := ?_) rfl (by kernel_rfl) (by kernel_rfl) (by kernel_rfl) (fun _ _ _ h => h) (Or.inl ⟨by rfl, by intro w hSw; go_simp; first | done | with_reducible rfl⟩) hH ?_
  simp only [List.getElem_toArray, List.getElem_cons_succ, List.getElem_cons_zero, Act.put, List.setIfInBounds_toArray, List.set_cons_zero, List.set_cons_succ]
  refine wpAnyH_take (i := 51) (v := ?_) rfl (by kernel_rfl) (by kernel_rfl) (by kernel_rfl) (fun _ _ _ h => h) (Or.inl ⟨by rfl, by intro w hSw; go_simp; first | done | with_reducible rfl⟩) hH ?_
  simp only [List.getElem_toArray, List.getElem_cons_succ, List.getElem_cons_zero, Act.put, List.setIfInBounds_toArray, List.set_cons_zero, List.set_cons_succ]
  refine wpAnyH_take (i := 52) (v := ?_) rfl (by kernel_rfl) (by kernel_rfl) (by kernel_rfl) (fun _ _ _ h => h) (Or.inl ⟨by rfl, by intro w hSw; go_simp; first | done | with_reducible rfl⟩) hH ?_
  simp only [List.getElem_toArray, List.getElem_cons_succ, List.getElem_cons_zero, Act.put, List.setIfInBounds_toArray, List.set_cons_zero, List.set_cons_succ]
  refine wpAnyH_take (i := 55) (v := ?_) rfl (by kernel_rfl) (by kernel_rfl) (by kernel_rfl) (fun _ _ _ h => h) (Or.inl ⟨by rfl, by intro w hSw; go_simp; first | done | with_reducible rfl⟩) hH ?_
  simp only [List.getElem_toArray, List.getElem_cons_succ, List.getElem_cons_zero, Act.put, List.setIfInBounds_toArray, List.set_cons_zero, List.set_cons_succ]
  refine wpAnyH_ready (rs := [27]) (by kernel_rfl) (by simp) ?_
  refine AllReadyH.cons rfl (fun K hK => ?_) ?_
  · clear hH
    go_simp
    refine (hrep _).mono ?_
    rintro e' V ⟨rfl, bV⟩
    have bW := (Below.refl _ w3).drew.trans bV
    have T := Lib.hid (T3.out.below bW); have L4 := Lib.hid (L3.out.below bW); have hb := Lib.hid ((bW.block _ (blkX hg.out)).trans hg.out)
    clear bV bW T3 L3 hg
    refine hK.out _ _ (hSv.out _ hb.out) (fun hH => ?_)
    clear hK K
    refine wpAnyH_take (i := 29) (v := ?_) rfl (by kernel_rfl) (by kernel_rfl) (by kernel_rfl) (fun _ _ _ h => h) (Or.inl ⟨by rfl, by intro w hSw; go_simp; first | done | with_reducible rfl⟩) hH ?_
    simp only [List.getElem_toArray, List.getElem_cons_succ, List.getElem_cons_zero, Act.put, List.setIfInBounds_toArray, List.set_cons_zero, List.set_cons_succ]
    refine wpAnyH_ready (rs := [53]) (by kernel_rfl) (by simp) ?_
    refine AllReadyH.cons rfl (fun K hK => ?_) ?_
    · clear hH
      go_simp
      refine alloc_gen (Kk := K _) encP3_len (badX f kk) rfl (by rw [badX_len]; omega) (by decide) fun U hU1 hU2 bU => ?_
      have T5 := Lib.hid (T.out.below bU); have L5 := Lib.hid (L4.out.below bU); have hb5 := Lib.hid ((bU.block _ (blkX hb.out)).trans hb.out); have X5 := Lib.hid (show RW encP3 7 66 U V.heap.size 11 (badX f kk) from ⟨hU1, hU2⟩)
      obtain ⟨R, hR⟩ : ∃ R, R = V.heap.size := ⟨_, rfl⟩
      rw [← hR] at X5 ⊢
      clear T L4 hb hU1 hU2 bU hR
      refine hK.out _ _ (hSv.out _ hb5.out) (fun hH => ?_)
      clear hK K hSv hb5
      refine wpAnyH_take (i := 54) (v := ?_) rfl (by kernel_rfl) (by kernel_rfl) (by kernel_rfl) (fun _ _ _ h => h) (Or.inl ⟨by rfl, by intro w hSw; go_simp; first | done | with_reducible rfl⟩) hH ?_
      simp only [List.getElem_toArray, List.getElem_cons_succ, List.getElem_cons_zero, Act.put, List.setIfInBounds_toArray, List.set_cons_zero, List.set_cons_succ]
      refine wpAnyH_done (by kernel_rfl) ?_ _
      clear hH
      go_wp2_with (fail)
      go_loopw [90] (fun i wr => ∃ k : Nat, i = .int .i64 k ∧ k ≤ 11 ∧ Tb w.heap.size w D (a % 64) P wr ∧ ER wr L P.length (P.map En.e) ∧ RW encP3 7 66 wr R 11 (badX f kk)) (fun i _ => 11 - (intOf i).toNat)
      case atStart => exact ⟨0, rfl, by omega, T5.out, L5.out, X5.out⟩
      case round =>
       clear T5 L5 X5
       revert wr
       intro w6 hrel
       obtain ⟨k, rfl, hk, hT, hL, hX⟩ := hrel
       by_cases hlt : k < 11
       · obtain ⟨x, hx, hcell⟩ := hX.at_ hlt
         have c0 := hcell 0 _ rfl; have c1 := hcell 1 _ rfl; have c2 := hcell 2 _ rfl; have c3 := hcell 3 _ rfl; have c4 := hcell 4 _ rfl; have c5 := hcell 5 _ rfl; have c6 := hcell 6 _ rfl
         simp only [Nat.add_zero] at c0
         obtain ⟨hx1, hx2⟩ := hbad.out x (List.mem_of_getElem? hx)
         obtain ⟨hpc, hpl⟩ := put_bad (size := a % 64) (P := P) hx1
         have bb := (Below.refl _ w6).alloc (Nat.le_refl _) (.cells #[.int .i64 x.e.1, .int .i64 x.e.2.1, .int .i64 x.e.2.2, .string x.k, .int .i64 x.r.1, .int .i64 x.r.2.1, .string x.r.2.2] 66)
         have hb := hpNew w6 (.cells #[.int .i64 x.e.1, .int .i64 x.e.2.1, .int .i64 x.e.2.2, .string x.k, .int .i64 x.r.1, .int .i64 x.r.2.1, .string x.r.2.2] 66)
         have T7 := hT.below bb
         have L7 := Lib.hid (hL.below bb)
         have X7 := Lib.hid (hX.below bb)
         have z0 := blkC hb 0; have z1 := blkC hb 1; have z2 := blkC hb 2; have z3 := blkC hb 3; have z4 := blkC hb 4; have z5 := blkC hb 5; have z6 := blkC hb 6
         simp only [List.getElem?_toArray, List.getElem?_cons_zero, List.getElem?_cons_succ] at z0 z1 z2 z3 z4 z5 z6
         have hput := T7.putM x.e x.k x.r hx2
         rw [show (⟨x.e, x.k, x.r⟩ : En) = x from rfl, hpc, hpl] at hput
         replace T7 := Lib.hid T7
         clear hb bb hcell hpc hpl hx1 hx2 hT hL hX
         have j0 : (0 : Int) ≤ k := by omega
         have j1 : (k : Int) < 11 := by omega
         go_wp2_with (fail)
         refine hput.mono ?_
         rintro e w8 ⟨rfl, T8, kp, -, -⟩
         have L8 := Lib.hid (L7.out.kp T7.out kp)
         have X8 := Lib.hid (X7.out.kp T7.out kp (by decide) (by decide))
         replace T8 := Lib.hid T8
         clear hput kp T7 L7 X7 c0 z0 c1 z1 c2 z2 c3 z3 c4 z4 c5 z5 c6 z6
         go_wp2_with (fail)
         exact ⟨⟨k + 1, by go_num, by omega, T8.out, L8.out, X8.out⟩, by simp [intOf]; omega⟩
       · obtain rfl : k = 11 := by omega
         clear hlt hk hX
         replace hT := Lib.hid hT; replace hL := Lib.hid hL
         go_wp2_with (fail)
         refine (hr1 _).mono ?_
         rintro e w8 ⟨rfl, b8⟩
         have T8 := Lib.hid (hT.out.below b8); have L8 := Lib.hid (hL.out.below b8)
         clear b8 hT hL
         go_wp2_with (fail)
         refine (hr2 _).mono ?_
         rintro e w9 ⟨rfl, b9⟩
         have T9 := Lib.hid (T8.out.below b9); have L9 := Lib.hid (L8.out.below b9)
         clear b9 T8 L8 hr1 hr2
         obtain ⟨w10, hw10⟩ : ∃ x, x = w9.alloc (.cells #[.string ⟨#[98]⟩, .string ⟨#[97]⟩, .string ⟨#[97]⟩, .string ⟨#[97]⟩, .string ⟨#[65]⟩, .string ⟨#[]⟩, .string (lrg 97 17), .string ⟨#[]⟩, .string ⟨#[]⟩, .string ⟨#[45]⟩, .string ⟨#[98]⟩, .string (lrg 99 17)] 25) := ⟨_, rfl⟩
         have hrow := row_of (enc := encG) encG_len w9 25 badG #[.string ⟨#[98]⟩, .string ⟨#[97]⟩, .string ⟨#[97]⟩, .string ⟨#[97]⟩, .string ⟨#[65]⟩, .string ⟨#[]⟩, .string (lrg 97 17), .string ⟨#[]⟩, .string ⟨#[]⟩, .string ⟨#[45]⟩, .string ⟨#[98]⟩, .string (lrg 99 17)] rfl (by decide) (by decide)
         have hnw := hpNew w9 (.cells #[.string ⟨#[98]⟩, .string ⟨#[97]⟩, .string ⟨#[97]⟩, .string ⟨#[97]⟩, .string ⟨#[65]⟩, .string ⟨#[]⟩, .string (lrg 97 17), .string ⟨#[]⟩, .string ⟨#[]⟩, .string ⟨#[45]⟩, .string ⟨#[98]⟩, .string (lrg 99 17)] 25)
         have bb := (Below.refl _ w9).alloc (Nat.le_refl _) (.cells #[.string ⟨#[98]⟩, .string ⟨#[97]⟩, .string ⟨#[97]⟩, .string ⟨#[97]⟩, .string ⟨#[65]⟩, .string ⟨#[]⟩, .string (lrg 97 17), .string ⟨#[]⟩, .string ⟨#[]⟩, .string ⟨#[45]⟩, .string ⟨#[98]⟩, .string (lrg 99 17)] 25)
         rw [← hw10] at hrow hnw bb
         have T10 := Lib.hid (T9.out.below bb); have L10 := Lib.hid (L9.out.below bb)
         have X10 := Lib.hid (show RW encG 2 25 w10 w9.heap.size 6 badG from ⟨hrow, ⟨_, hnw⟩⟩)
         clear hrow hnw bb T9 L9
         go_wp2_with (fail)
         rw [← hw10]
         replace hw10 := Lib.hid hw10
         obtain ⟨R2, hR2⟩ : ∃ x, x = w9.heap.size := ⟨_, rfl⟩
         rw [← hR2] at X10 ⊢
         clear hR2
         go_loopw [114] (fun i wr => ∃ k : Nat, i = .int .i64 k ∧ k ≤ 6 ∧ Tb w.heap.size w D (a % 64) P wr ∧ ER wr L P.length (P.map En.e) ∧ RW encG 2 25 wr R2 6 badG) (fun i _ => 6 - (intOf i).toNat)
         case atStart => exact ⟨0, rfl, by omega, T10.out, L10.out, X10.out⟩
         case round =>
          clear T10 L10 X10
          revert wr
          intro w11 hrel
          obtain ⟨k, rfl, hk, hT, hL, hX⟩ := hrel
          by_cases hlt : k < 6
          · obtain ⟨x, hx, hcell⟩ := hX.at_ hlt
            have c0 := hcell 0 _ rfl; have c1 := hcell 1 _ rfl
            simp only [Nat.add_zero] at c0
            obtain ⟨hx1, hx2, hx3⟩ := badG_bad x (List.mem_of_getElem? hx)
            obtain ⟨htc, hto, htl⟩ := take_bad (P := P) hx1
            have bb := (Below.refl _ w11).alloc (Nat.le_refl _) (.cells #[.string x.1, .string x.2] 25)
            have hb := hpNew w11 (.cells #[.string x.1, .string x.2] 25)
            have T12 := hT.below bb
            have L12 := Lib.hid (hL.below bb)
            have X12 := Lib.hid (hX.below bb)
            have z0 := blkC hb 0; have z1 := blkC hb 1
            simp only [List.getElem?_toArray, List.getElem?_cons_zero, List.getElem?_cons_succ] at z0 z1
            have htk := T12.takeM x.1 x.2 (by omega) (by omega)
            rw [show ((x.1, x.2) : Rg) = x from rfl, htc, hto, htl] at htk
            replace T12 := Lib.hid T12
            clear hb bb hcell htc hto htl hx1 hx2 hx3 hT hL hX
            have j0 : (0 : Int) ≤ k := by omega
            have j1 : (k : Int) < 6 := by omega
            go_wp2_with (fail)
            refine htk.mono ?_
            rintro e w13 ⟨B2, m2, d2, rfl, hm2, -, -, T13, kp, -, -⟩
            have hm3 : m2 = 0 := hm2
            subst hm3
            have L13 := Lib.hid (L12.out.kp T12.out kp)
            have X13 := Lib.hid (X12.out.kp T12.out kp (by decide) (by decide))
            replace T13 := Lib.hid T13
            clear htk kp hm2 T12 L12 X12 c0 c1 z0 z1
            go_wp2_with (fail)
            exact ⟨⟨k + 1, by go_num, by omega, T13.out, L13.out, X13.out⟩, by simp [intOf]; omega⟩
          · obtain rfl : k = 6 := by omega
            clear hlt hk hX
            have hal := hT.all
            replace hT := Lib.hid hT; replace hL := Lib.hid hL
            go_wp2_with (fail)
            refine hal.mono ?_
            rintro e w12 ⟨L2, m2, d2, rfl, rfl, E2, -, T12, b12⟩
            have L12 := hL.out.below b12
            have he := equal_any L2 L P.length d2 P.length d _ _ _ E2 L12.es (by omega) (by omega)
            rw [decide_eq_true rfl] at he
            replace T12 := Lib.hid T12; replace L12 := Lib.hid L12; replace E2 := Lib.hid E2
            clear hal hT hL b12
            go_wp2_with (fail)
            refine he.mono ?_
            rintro e w13 ⟨rfl, b13⟩
            have T13 := Lib.hid (T12.out.below b13)
            clear he T12 L12 E2 b13
            go_wp2_with (fail)
            refine (works_any _).mono ?_
            rintro e w14 ⟨rfl, b14⟩
            have B14 := Lib.hid (T13.out.bel.trans (b14.mono T13.out.le))
            clear b14 T13
            go_wp2_with (fail)
            go_ret
            exact ⟨rfl, B14.out⟩
    exact AllReadyH.nil
  exact AllReadyH.nil
end Go.Proofs.YtkdfhackpmdgfaaDoor
