/- All. -/
import Derived.Test.YtkdfhackpmdgfaaGreatDoorTabP
import Derived.Deep.QuietTactic
import Derived.BigQuiet
namespace Go.Proofs.YtkdfhackpmdgfaaGreatDoor
open Go.RowKit Go.Shelf
set_option linter.unusedSimpArgs false
set_option linter.unusedVariables false
set_option linter.unusedSectionVars false
set_option maxRecDepth 10000
/-- Stores in a row. -/
def sets {β : Type} : List β → Nat → List β → List β
  | L, _, [] => L
  | L, o, v :: r => sets (L.set o v) (o + 1) r
theorem sets_list {β : Type} : ∀ (vs : List β) (L : List β) (o : Nat), o + vs.length ≤ L.length → sets L o vs = L.take o ++ vs ++ L.drop (o + vs.length)
  | [], L, o, h => by simp [sets]
  | v :: r, L, o, h => by
    have hl : o < L.length := by simp at h; omega
    rw [sets, sets_list r (L.set o v) (o + 1) (by simp at h ⊢; omega)]
    have e1 : (L.set o v).take (o + 1) = L.take o ++ [v] := by
      rw [List.set_eq_take_append_cons_drop, if_pos hl, List.take_append, List.length_take, Nat.min_eq_left (by omega), List.take_of_length_le (by rw [List.length_take]; omega), show o + 1 - o = 1 from by omega]
      rfl
    have e2 : (L.set o v).drop (o + 1 + r.length) = L.drop (o + (v :: r).length) := by
      rw [List.drop_set_of_lt (by omega)]
      congr 1; simp; omega
    rw [e1, e2]
    simp
theorem set3_list {β : Type} (L : List β) (o : Nat) (a b c : β) (h : o + 3 ≤ L.length) : ((L.set o a).set (o + 1) b).set (o + 2) c = L.take o ++ [a, b, c] ++ L.drop (o + 3) := sets_list [a, b, c] L o h
/-- A row of effects that is filled from its beginning. -/
structure Fill (w : World) (g n : Nat) (l : List Ef) (W : World) : Prop where
  bel : Below w.heap.size w W
  ge : w.heap.size ≤ g
  blk : ∃ cur : Array Value, W.heap[g]? = some (.cells cur 39 (0, 0)) ∧ cur.size = n * 3 ∧ cur.toList.take (l.length * 3) = flat encE l
theorem Fill.keep {w W W' : World} {g n : Nat} {l : List Ef} (h : Fill w g n l W) (hb : Below W.heap.size W W') : Fill w g n l W' := by
  obtain ⟨h1, h2, cur, h3, h4, h5⟩ := h
  exact ⟨h1.trans (hb.mono h1.size), h2, cur, (hb.block g (blkX h3)).trans h3, h4, h5⟩
theorem Fill.put {w W : World} {g n : Nat} {l : List Ef} (h : Fill w g n l W) (x : Ef) (hl : l.length < n) :
    (∀ j, j < 3 → ∃ u, W.cell? ⟨g, l.length * 3 + j, none⟩ = some u) ∧ (∀ j, W.frozen? ⟨g, j, none⟩ = false) ∧
    Fill w g n (l ++ [x]) (((W.setCell ⟨g, l.length * 3, none⟩ (.int .i64 x.1)).setCell ⟨g, l.length * 3 + 1, none⟩ (.int .i64 x.2.1)).setCell ⟨g, l.length * 3 + 2, none⟩ (.int .i64 x.2.2)) := by
  obtain ⟨h1, h2, cur, h3, h4, h5⟩ := h
  refine ⟨fun j hj => ?_, blkF h3, ?_⟩
  · rw [blkC h3]
    exact ⟨_, Array.getElem?_eq_getElem (by omega)⟩
  · refine ⟨?_, h2, _, hpSet (hpSet (hpSet h3)), by simpa using h4, ?_⟩
    · exact ((h1.setCell h2 _).setCell h2 _).setCell h2 _
    · have hq : l.length * 3 + 3 ≤ cur.toList.length := by have hc := Array.length_toList (xs := cur); omega
      simp only [Array.toList_setIfInBounds]
      rw [set3_list cur.toList (l.length * 3) _ _ _ hq, h5, List.length_append, List.length_singleton]
      have hf : (flat encE l).length = l.length * 3 := flat_length encE_len l
      rw [List.append_assoc, List.take_append, hf, List.take_of_length_le (by rw [hf]; omega), show (l.length + 1) * 3 - l.length * 3 = 3 from by omega, flat_app]
      simp [flat, encE]
theorem fill_new (w : World) (n : Nat) (hn : n ≤ 100000) : ∃ W1, (Instr.makeSlice 33 (.int .i64 (n : Int)) (.int .i64 (n : Int))).run Tryz.prog w = .ok (.slice (some ⟨w.heap.size, 0, none⟩) n n) W1 ∧ Fill w w.heap.size n [] W1 := by
  obtain ⟨hu, ⟨i, z, hi, hz0, hz1, hz2, hzc⟩, hp⟩ := elemE
  have hr := run_makeSlice (P := Tryz.prog) w 33 39 i z hu hi hz0 .i64 .i64 n n (by omega) (by omega) (by rw [hz1]; omega) (by rw [hz2]; omega) (by omega)
  rw [Int.toNat_natCast, hz1] at hr
  refine ⟨_, hr, (Below.refl _ _).alloc (Nat.le_refl _) _, Nat.le_refl _, _, hpNew w _, ?_, by simp [flat]⟩
  exact size_madeCells _ _
set_option maxHeartbeats 8000000 in
theorem all_any {base D c : Nat} {size : Int} {A : Option Addr} {P : List En} {w : World} (h : TabP base D size A c P w) :
    Calls Tryz.prog 13 #[.pointer (some ⟨D, 0, none⟩)] w fun e w' => ∃ B m d, e = .returned (.slice B m d) ∧ m = P.length ∧ ES w' B m (P.map En.e) ∧ (∀ g, rowOf B = some g → w.heap.size ≤ g ∧ ∃ cs, w'.heap[g]? = some (.cells cs 39 (0, 0))) ∧ Below w.heap.size w w' := by
  have hv := valid_any h
  have hsz := h.sz
  have hle := h.le
  have c2 := blkC h.blk 2
  simp only [List.getElem?_toArray, List.getElem?_cons_zero, List.getElem?_cons_succ] at c2
  have hDl := h.lt
  replace h := Lib.hid h
  go_enter Tryz.func13, Tryz.ntmps13
  go_wp2_with (fail)
  refine hv.mono ?_
  rintro e w1 ⟨rfl, rfl⟩
  obtain ⟨W1, hmk, hF⟩ := fill_new w1 P.length (by omega)
  have c2' := (hF.bel.cell (p := ⟨D, 2, none⟩) hDl).trans c2
  have hps := h.out.ps
  obtain ⟨g, hg⟩ : ∃ g, g = w1.heap.size := ⟨_, rfl⟩
  rw [← hg] at hmk hF
  replace hps := Lib.hid hps; replace hg := Lib.hid hg; replace hF := Lib.hid hF
  go_wp2_with (fail)
  clear hmk c2 c2' hv
  go_loopw [20] (fun i wr => ∃ k : Nat, k ≤ P.length ∧ i = .int .i64 k ∧ Fill w1 g P.length ((P.take k).map En.e) wr) (fun i _ => P.length - (intOf i).toNat)
  case atStart => exact ⟨0, by omega, rfl, hF.out⟩
  case round =>
    revert wr
    intro W2 hrel
    obtain ⟨k, hk, rfl, hF2⟩ := hrel
    have hlk : ((P.take k).map En.e).length = k := by rw [List.length_map, List.length_take]; omega
    by_cases hlt : k < P.length
    · obtain ⟨b, o, x, rfl, hbl, hx, p0, p1, p2, p3, p4, p5, p6⟩ := PS.at_ (SL.keep hps.out hF2.bel) hlt
      have k0 : (0 : Int) ≤ k := by omega
      have k1 : (k : Int) < P.length := by omega
      have kb := (Below.refl W2.heap.size W2).alloc (Nat.le_refl _) (.cells #[.int .i64 x.r.1, .int .i64 x.r.2.1, .string x.r.2.2, .int .i64 x.e.1, .int .i64 x.e.2.1, .int .i64 x.e.2.2, .string x.k] 67)
      have hgl : g < W2.heap.size := by obtain ⟨_, _, cur, hc, _⟩ := hF2; exact blkX hc
      obtain ⟨hc, hz, hF3⟩ := hF2.put x.e (by omega)
      rw [hlk] at hc hF3
      obtain ⟨u0, q0⟩ := hc 0 (by omega)
      obtain ⟨u1, q1⟩ := hc 1 (by omega)
      obtain ⟨u2, q2⟩ := hc 2 (by omega)
      rw [Nat.add_zero] at q0
      have z0 := hz (k * 3)
      have z1 := hz (k * 3 + 1)
      have z2 := hz (k * 3 + 2)
      have htk : (P.take k).map En.e ++ [x.e] = (P.take (k + 1)).map En.e := by rw [List.take_add_one, hx, List.map_append]; rfl
      rw [htk] at hF3
      replace hF2 := Lib.hid hF2; replace hF3 := Lib.hid hF3; replace hx := Lib.hid hx; replace htk := Lib.hid htk; replace hlk := Lib.hid hlk; replace kb := Lib.hid kb; replace hz := Lib.hid hz
      clear hc
      go_wp2_with (fail)
      exact ⟨⟨k + 1, by omega, by go_num, hF3.out.keep ((Below.refl _ _).alloc (Nat.le_refl _) _)⟩, by simp [intOf]; omega⟩
    · obtain rfl : k = P.length := by omega
      rw [List.take_of_length_le (by omega)] at hF2
      obtain ⟨f1, f2, cur, f3, f4, f5⟩ := hF2
      have hES : ES W2 (some ⟨g, 0, none⟩) P.length (P.map En.e) := by
        refine SL.of_own (base := w1.heap.size) (c := P.length) encE_len (own_mk f2 f3 (Nat.le_refl _) (by unfold maxLen; omega) f4 (by rw [flat_length encE_len, List.length_map]) ?_) (by simp)
        rw [List.length_map] at f5; exact f5
      replace hES := Lib.hid hES; replace f1 := Lib.hid f1; replace f3 := Lib.hid f3; replace f4 := Lib.hid f4; replace f5 := Lib.hid f5; replace hlk := Lib.hid hlk
      go_wp2_with (fail)
      go_ret
      exact ⟨some ⟨g, 0, none⟩, P.length, P.length, rfl, rfl, hES.out, fun g' e => by injection e with e; simp only at e; subst e; exact ⟨by omega, cur, f3.out⟩, f1.out⟩
end Go.Proofs.YtkdfhackpmdgfaaGreatDoor
