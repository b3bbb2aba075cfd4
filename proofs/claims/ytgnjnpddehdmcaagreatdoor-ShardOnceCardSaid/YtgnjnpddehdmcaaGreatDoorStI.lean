/- The store: In. -/
import Derived.Test.YtgnjnpddehdmcaaGreatDoorCChgB
import Derived.Test.YtgnjnpddehdmcaaGreatDoorShort
import Derived.Test.YtgnjnpddehdmcaaGreatDoorRange
import Derived.Test.YtgnjnpddehdmcaaGreatDoorRangeG
import Derived.Shelf.Abstract
import Derived.Shelf.RegionOpen
import Derived.WalkKit
import Derived.OwnWalkIn
import Derived.TacticsInMore
import Derived.LoopNIn
import Derived.LoopIn
import Derived.Outline
import Derived.Test.YtgnjnpddehdmcaaGreatDoorHasG
namespace Go.Proofs.YtgnjnpddehdmcaaGreatDoor
open Go.RowKit Go.Shelf
set_option linter.unusedSimpArgs false
set_option linter.unusedVariables false
set_option linter.unusedSectionVars false
set_option maxRecDepth 10000
attribute [local go_sem] Oper.semAt_some
def isRow (W : World) (ob k : Nat) : Prop := ∃ A n c t f, W.heap[ob]? = some (.cells #[.slice A n c] t f) ∧ rowOf A = some k
structure Fr (ob N : Nat) (A B : World) : Prop where
 size : A.heap.size ≤ B.heap.size
 low : ∀ k, k < N → k ≠ ob → B.heap[k]? = A.heap[k]?
 cel : ∀ (k : Nat) (cs : Array Value) (t : TypeId) (f : Nat × Nat), A.heap[k]? = some (.cells cs t f) → k ≠ ob → ¬ isRow A ob k → B.heap[k]? = some (.cells cs t f)
 row : ∀ k, isRow B ob k → isRow A ob k ∨ (A.heap.size ≤ k ∧ k < B.heap.size)
theorem Fr.refl (ob N : Nat) (A : World) : Fr ob N A A := ⟨Nat.le_refl _, fun _ _ _ => rfl, fun _ _ _ _ h _ _ => h, fun _ h => .inl h⟩
theorem Fr.trans {ob N : Nat} {A B C : World} (h : Fr ob N A B) (h2 : Fr ob N B C) : Fr ob N A C := by
 refine ⟨Nat.le_trans h.size h2.size, fun k hk hn => (h2.low k hk hn).trans (h.low k hk hn), fun k cs t f hk hn hr => ?_, fun k hk => ?_⟩
 ·
  refine h2.cel k cs t f (h.cel k cs t f hk hn hr) hn fun q => ?_
  rcases h.row k q with q | q
  ·
   exact hr q
  ·
   have := blkX hk; omega
 ·
  rcases h2.row k hk with q | q
  ·
   rcases h.row k q with q | q
   ·
    exact .inl q
   ·
    exact .inr ⟨q.1, Nat.lt_of_lt_of_le q.2 h2.size⟩
  ·
   exact .inr ⟨Nat.le_trans h.size q.1, q.2⟩
theorem Fr.grown {ob N : Nat} {A B : World} {row : Option Nat} (hob : ob < N) (hN : N ≤ A.heap.size) (hg : A.grownBy B row) (hr : ∀ r, row = some r → N ≤ r ∧ ∃ o : Obj, A.heap[r]? = some o ∧ o.isCells = false) : Fr ob N A B := by
 have hb : B.heap[ob]? = A.heap[ob]? := hg.block ob (by omega) fun e => by have := (hr ob e.symm).1; omega
 refine ⟨hg.size, fun k hk _ => hg.block k (by omega) fun e => by have := (hr k e.symm).1; omega, fun k cs t f hk _ _ => (hg.block k (blkX hk) fun e => ?_).trans hk, fun k ⟨A', n, c, t, f, h1, h2⟩ => .inl ⟨A', n, c, t, f, hb ▸ h1, h2⟩⟩
 obtain ⟨o, h1, h2⟩ := (hr k e.symm).2
 rw [hk] at h1; injection h1 with h1; subst h1; cases h2
theorem Fr.below {ob N : Nat} {A B : World} (hob : ob < N) (hN : N ≤ A.heap.size) (hb : Below A.heap.size A B) : Fr ob N A B := Fr.grown (row := none) hob hN ⟨hb.os, hb.tape, hb.output, hb.size, fun k hk _ => hb.block k hk⟩ (fun r e => by cases e)
theorem grown_bel {w W : World} (h : Below w.heap.size w W) : w.grownBy W none := ⟨h.os, h.tape, h.output, h.size, fun k hk _ => h.block k hk⟩
theorem yldS {e : Ending} {A B : Prop} (h : (e = .returned (.bool true) ∧ A) ∨ (e = .returned (.bool false) ∧ B)) : ∃ b : Bool, e = .returned (.bool b) ∧ (b = true → A) ∧ (b = false → B) := by
 rcases h with ⟨h, a⟩ | ⟨h, b⟩
 ·
  exact ⟨true, h, fun _ => a, fun h => by cases h⟩
 ·
  exact ⟨false, h, fun h => (by cases h), fun _ => b⟩
theorem keys_pw {l : Ct} (ho : AOrd lessB l) : (l.map fun x => x.1.data.toList).Pairwise fun a b => a < b := by
 rw [List.pairwise_map]
 exact ho.imp fun {a b} h => by have q := (less_iff _ _).1 h; rwa [ByteArray.toList_eq, ByteArray.toList_eq] at q
theorem keys_enc (l : Ct) : (l.map fun x => x.1.data.toList).map encStr = flat encS1 (l.map (·.1)) := by
 induction l with
 | nil => rfl
 | cons x l ih =>
  simp only [List.map_cons, flat, List.flatMap_cons] at ih ⊢
  rw [ih]; rfl
theorem row_form {W : World} {base n : Nat} {e : TypeId} {v : Value} {xs : List Value} (h : W.ownsRow base e 1 v n xs) : ∃ A c, v = .slice A n c := by
 rcases h.2 with ⟨e1, e2⟩ | ⟨g, cap, cur, e1, _⟩
 ·
  exact ⟨none, 0, by rw [e1, e2]⟩
 ·
  exact ⟨_, _, e1⟩
theorem stKeys_any {base St M : Nat} {l : Ct} {w : World} (h : StW base St M l w) : Calls Tryz.prog 217 #[.func (.func 268) #[] #[.pointer (some ⟨w.heap.size, 0, none⟩)]] (w.alloc (.cells #[.map (some M)] 154)) fun e w' => ∃ A c, e = .returned (.slice A l.length c) ∧ w'.ownsRow w.heap.size 9 1 (.slice A l.length c) l.length (flat encS1 (l.map (·.1))) ∧ Below w.heap.size w w' := by
 obtain ⟨D, hD, hs, hp⟩ := MapS.keys ltS h.map h.ord undS (fun x hx => name_max (h.ok x hx).1)
 have hlen := h.len
 refine (callsIn_wide.1 (Tryz.slices_Sorted_Counts M l.length D heldE w hD (by rw [hs]; unfold maxLen; omega) (by rw [hs]; omega))).mono ?_
 rintro e w' ⟨v, ss, rfl, hss, hown, _, hb⟩
 have hk := sort_keys (keys_pw h.ord) hp hss
 have hl : ss.length = l.length := by rw [hss.length_eq, ← hp.length_eq, List.length_map]
 rw [hk, keys_enc, hl] at hown
 obtain ⟨A, c, rfl⟩ := row_form hown
 have hz : (w.alloc (.cells #[.map (some M)] 154)).heap.size = w.heap.size + 1 := by simp
 refine ⟨A, c, rfl, ?_, ((Below.refl _ w).alloc (Nat.le_refl _) _).trans (hb.mono (by omega))⟩
 exact ⟨hown.1, hown.2.imp id fun ⟨g, cap, cur, h1, h2, h3⟩ => ⟨g, cap, cur, h1, by omega, h3⟩⟩
theorem each_any (St : Nat) (w : World) : Calls Tryz.prog 159 #[.pointer (some ⟨St, 0, none⟩)] w fun e w' => e = .returned (.func (.func 216) #[] #[.pointer (some ⟨w.heap.size, 0, none⟩)]) ∧ w' = w.alloc (.cells #[.pointer (some ⟨St, 0, none⟩)] 83) := by
 go_enter Tryz.func159, Tryz.ntmps159
 go_wp2_with (fail)
 go_ret
 exact ⟨rfl, rfl⟩
def RK (x : ByteArray × Cn) (vs : Array Value) (_ _ : World) : Prop := vs = #[.string x.1, cnV x.2]
theorem keepRow {wr W : World} {ob N B n c : Nat} {T : TypeId} {A : Option Addr} {xs : List Value} (h : wr.ownsRow B T 1 (.slice A n c) n xs) (hF : Fr ob N wr W) (hob : ob < B) (hno : ∀ k, rowOf A = some k → ¬ isRow wr ob k) : W.ownsRow B T 1 (.slice A n c) n xs ∧ ∀ k, rowOf A = some k → ¬ isRow W ob k := by
 refine ⟨⟨h.1, ?_⟩, fun k hk q => ?_⟩
 ·
  rcases h.2 with q | ⟨g, cap, cur, e1, e2, hh, r⟩
  ·
   exact .inl q
  ·
   have hg : rowOf A = some g := by injection e1 with e1; rw [e1]; rfl
   exact .inr ⟨g, cap, cur, e1, e2, hF.cel g _ _ _ hh (by omega) (hno g hg), r⟩
 ·
  rcases hF.row k q with q | q
  ·
   exact hno k hk q
  ·
   obtain ⟨cs, hc⟩ := row_cells h hk
   have := blkX hc; omega
theorem ct_at {l : Ct} (ho : AOrd lessB l) {j : Nat} {x : ByteArray × Cn} (h : l[j]? = some x) : lookA l x.1 = some x.2 := AOrd.look ltS ho (List.mem_of_getElem? h)
theorem StW.at_ {base St M : Nat} {l : Ct} {W : World} (h : StW base St M l W) {j : Nat} {x : ByteArray × Cn} (hx : l[j]? = some x) : (Instr.lookup 154 (.map (some M)) (.string x.1) false).run Tryz.prog W = .ok (cnV x.2) W := by
 refine MapOf.look h.map (Maps.string_keyed undS) undC (zeroC W) (Go.WideMaps.keyOf_string_mk undS (name_max (h.ok x (List.mem_of_getElem? hx)).1)) ?_
 rw [sF_some, ct_at h.ord hx]; rfl
def SeqEndS (J Jx : Ct → World → Prop) (xs : Ct) (W : World) : Prop := J xs W ∨ ∃ pre x rest, xs = pre ++ x :: rest ∧ Jx (pre ++ [x]) W
set_option maxRecDepth 100000 in
set_option maxHeartbeats 8000000 in
theorem each1_in (n l bs St M ob N base : Nat) (lst : Ct) (hn : 1 ≤ n) (J Jx : Ct → World → Prop)
  (hJ : ∀ pre A B, J pre A → A.grownBy B none → J pre B) (hY : ∀ pre x rest vs W0 W1, lst = pre ++ x :: rest → J pre W0 → W0.grownBy W1 none → RK x vs W0 W1 → YieldAt Fence.wide (n - 1) Tryz.prog l vs W1 fun e W' => (e = .returned (.bool true) ∧ J (pre ++ [x]) W' ∧ Fr ob N W1 W') ∨ (e = .returned (.bool false) ∧ Jx (pre ++ [x]) W'))
  (W : World) (hb : Boxed W bs 83 (.pointer (some ⟨St, 0, none⟩))) (hS : StW base St M lst W) (hN : N ≤ W.heap.size) (hbs : bs < N) (hSt : St < N) (hM : M < N) (hob : ob < N) (nb : bs ≠ ob) (ns : St ≠ ob) (nm : M ≠ ob) (hrow : ∀ k, isRow W ob k → k < W.heap.size) (h0 : J [] W) :
  CallsIn Fence.wide n Tryz.prog 216 #[.func (.yield l) #[] #[], .pointer (some ⟨bs, 0, none⟩)] W fun e W' => (∃ v, e = .returned v) ∧ SeqEndS J Jx lst W' := by
 refine callsIn_of_wp Tryz.func216 rfl trivial ?_ rfl
 simp only [Tryz.ntmps216, List.size_toArray, List.length_cons, List.length_nil, Nat.reduceAdd, Nat.reduceSub, Array.replicate_succ, Array.replicate_zero, List.push_toArray, List.append_toArray, List.nil_append, List.cons_append]
 have s0 := hb.cell
 have s1 : W.cell? ⟨St, 0, none⟩ = some (.map (some M)) := blkC hS.blk 0
 have x1 := hS.lt
 have x0 := hb.lt
 have hl64 := hS.len
 have hks := stKeys_any hS
 have hkm := fun W => Tryz.maps_Keys_Counts (some M) W
 replace hb := Lh hb; replace hS := Lh hS; replace h0 := Lh h0; replace hrow := Lh hrow
 gi_wp2_with (first | (refine ⟨trivial, ?_⟩; gi_at_call 90; refine (callsIn_wide.2 (stValid_any hS.out)).mono ?_; rintro e W1 ⟨rfl, rfl⟩) | (refine ⟨trivial, ?_⟩; gi_at_call 218; refine (callsIn_wide.2 (callsIn_wide.1 (hkm _))).mono ?_; rintro e W1 ⟨rfl, rfl⟩) | (refine ⟨trivial, ?_⟩; gi_at_call 217; refine (callsIn_wide.2 hks).mono ?_; rintro e W2 ⟨A, c, rfl, hown, hb2⟩; replace hown := Lh hown; replace hb2 := Lh hb2))
 have hnr : ∀ k, rowOf A = some k → ¬ isRow W2 ob k := by
  rintro k hk ⟨A', n', c', t, f, e1, e2⟩
  have e3 : W1.heap[ob]? = W2.heap[ob]? := (hb2.out.block ob (by omega)).symm
  have := hrow.out k ⟨A', n', c', t, f, e3.trans e1, e2⟩
  have := (own_row hown.out k hk).1
  omega
 replace hnr := Lh hnr
 gi_loopw [15] (fun i wr => ∃ (j : Nat) (W0 : World), j ≤ lst.length ∧ i = .int .i64 j ∧ J (lst.take j) W0 ∧ W0.grownBy wr none ∧ Boxed wr bs 83 (.pointer (some ⟨St, 0, none⟩)) ∧ StW base St M lst wr ∧ wr.ownsRow W1.heap.size 9 1 (.slice A lst.length c) lst.length (flat encS1 (lst.map (·.1))) ∧ ∀ k, rowOf A = some k → ¬ isRow wr ob k) (fun i _ => lst.length - (intOf i).toNat)
 case atStart => exact ⟨0, W1, by omega, rfl, h0.out, grown_bel hb2.out, (hb2.out.block _ x0).trans hb.out, hS.out.below hb2.out, hown.out, hnr.out⟩
 case round =>
  clear hks hkm s0 s1 hb hS h0 hown hb2 hnr hrow
  revert wr
  intro X hrel
  obtain ⟨j, W0, hj, rfl, hJ0, hgr, hB, hS, hown, hno⟩ := hrel
  by_cases hlt : j < lst.length
  ·
   obtain ⟨x, hx⟩ : ∃ x, lst[j]? = some x := ⟨_, List.getElem?_eq_getElem hlt⟩
   have hxs : lst = lst.take j ++ x :: lst.drop (j + 1) := by
    conv => lhs; rw [← List.take_append_drop j lst, List.drop_eq_getElem_cons hlt, (List.getElem?_eq_some_iff.1 hx).2]
   have hks : KS X A lst.length (lst.map (·.1)) := SL.of_own (fun _ => rfl) hown (by simp)
   obtain ⟨b, o, k, rfl, hbl, hxk, hc⟩ := SL.at_ hks hlt
   obtain rfl : x.1 = k := by rw [List.getElem?_map, hx] at hxk; simpa using hxk
   have s9 := hc 0 _ rfl
   rw [Nat.mul_one, Nat.add_zero] at s9
   clear hc hxk hks
   have hlk := hS.at_ hx
   obtain ⟨fn, tmps, assign, body, hy, hR⟩ := hY _ _ _ _ _ _ hxs hJ0 hgr rfl
   have hsn : lst.take j ++ [x] = lst.take (j + 1) := by rw [List.take_add_one, hx]; rfl
   obtain ⟨k, y1, y2, y3, y4, y5⟩ := x
   simp only [cnV] at hy hlk s9
   have s0 := hB.cell
   have s1 : X.cell? ⟨St, 0, none⟩ = some (.map (some M)) := blkC hS.blk 0
   have x1 := hS.lt
   have x0 := hB.lt
   have j0 : (0 : Int) ≤ j := by omega
   have j1 : (j : Int) < (lst.length : Int) := by omega
   replace hxs := Lh hxs; replace hown := Lh hown; replace hno := Lh hno; replace hB := Lh hB; replace hS := Lh hS; replace hsn := Lh hsn; replace hx := Lh hx; replace hgr := Lh hgr
   clear hJ0
   gi_wp2
   refine hR.mono ?_
   rintro e W9 hp9
   obtain ⟨b9, rfl, hb9⟩ := yldS hp9
   clear hp9 hR hy hlk s9 s0 s1
   replace hb9 := Lh hb9
   cases b9
   ·
    gi_wp2
    refine bodyPost_ret (results_none rfl _ _ _) rfl ?_
    exact ⟨⟨_, rfl⟩, .inr ⟨_, _, _, hxs.out, hb9.out.2 trivial⟩⟩
   ·
    gi_wp2
    obtain ⟨hJ9, hF⟩ := hb9.out.1 trivial
    rw [hsn.out] at hJ9
    obtain ⟨r1, r2⟩ := keepRow hown.out hF (by omega) hno.out
    exact ⟨⟨j + 1, W9, by omega, by go_num, hJ9, grown_bel (Below.refl _ _), (hF.low _ hbs nb).trans hB.out, hS.out.keep (hF.low _ hSt ns) (hF.low _ hM nm), r1, r2⟩, by simp [intOf]; omega⟩
  ·
   obtain rfl : j = lst.length := by omega
   rw [List.take_length] at hJ0
   have hend := hJ _ _ _ hJ0 hgr
   clear hJ0 hgr hB hS hown hno
   replace hend := Lh hend
   gi_wp2
   go_end0
   exact ⟨⟨_, rfl⟩, .inl hend.out⟩
theorem each_seq (n bs St M ob N base : Nat) (lst : Ct) (hn : 1 ≤ n) (w : World) (hb : Boxed w bs 83 (.pointer (some ⟨St, 0, none⟩))) (hS : StW base St M lst w) (hN : N = w.heap.size) (hbs : bs < N) (hSt : St < N) (hM : M < N) (hob : ob < N) (nb : bs ≠ ob) (ns : St ≠ ob) (nm : M ≠ ob) (hrow : ∀ k, isRow w ob k → k < w.heap.size) : SeqMemG Fence.wide n Tryz.prog 216 #[.pointer (some ⟨bs, 0, none⟩)] RK (Fr ob N) lst w := by
 intro l J Jx W hW hJ hY h0
 exact each1_in n l bs St M ob N base lst hn J Jx hJ hY W ((hW.low _ hbs nb).trans hb) (hS.keep (hW.low _ hSt ns) (hW.low _ hM nm)) (by have := hW.size; omega) hbs hSt hM hob nb ns nm (fun k hk => (hW.row k hk).elim (fun q => Nat.lt_of_lt_of_le (hrow k q) hW.size) (fun q => q.2)) h0
end Go.Proofs.YtgnjnpddehdmcaaGreatDoor

namespace Go.Proofs.YtgnjnpddehdmcaaGreatDoor
open Go.RowKit Go.Shelf
set_option linter.unusedSimpArgs false
set_option linter.unusedVariables false
set_option linter.unusedSectionVars false
set_option maxRecDepth 10000
attribute [local go_sem] Oper.semAt_some
attribute [local go_sem ↓] hideAppend
theorem own_grownR {W W' : World} {B n c sz : Nat} {e : TypeId} {A : Option Addr} {xs : List Value} {row : Option Nat} (h : W.ownsRow B e sz (.slice A n c) n xs) (hg : W.grownBy W' row) (hr : ∀ r, row = some r → ∃ o : Obj, W.heap[r]? = some o ∧ o.isCells = false) : W'.ownsRow B e sz (.slice A n c) n xs := by
 refine ⟨h.1, h.2.imp id ?_⟩
 rintro ⟨g, cap, cur, e1, e2, hh, r⟩
 refine ⟨g, cap, cur, e1, e2, (hg.block g (blkX hh) fun e => ?_).trans hh, r⟩
 obtain ⟨o, h1, h2⟩ := hr g e.symm
 rw [hh] at h1; injection h1 with h1; subst h1; cases h2
theorem keeps_belowR {W W' : World} (h : Below W.heap.size W W') : KeepsOthers W W' := ⟨h.size, fun k o hk _ => (h.block k (Array.getElem?_eq_some_iff.1 hk).1).trans hk⟩
theorem Fr.app {ob N n n' c c' sz : Nat} {W w9 : World} {A A' : Option Addr} {T e : TypeId} {f : Nat × Nat} {B : Nat} {xs : List Value} (ho : W.heap[ob]? = some (.cells #[.slice A n c] T f)) (hA : ∀ k, rowOf A = some k → N ≤ k) (hg : W.grownBy w9 (rowOf A)) (hat : rowOf A' = rowOf A ∨ rowOf A' = some W.heap.size) (hown : w9.ownsRow B e sz (.slice A' n' c') n' xs) (hob : ob < N) (hN : N ≤ W.heap.size) : Fr ob N W (w9.setCell ⟨ob, 0, none⟩ (.slice A' n' c')) := by
 have hne : rowOf A ≠ some ob := fun q => by have := hA ob q; omega
 have h9 := (hg.block ob (blkX ho) (fun q => hne q.symm)).trans ho
 have h10 := hpSet (i := 0) (v := .slice A' n' c') h9
 refine ⟨by rw [World.size_setCell]; exact hg.size, fun k hk hn => (hpFar (by simp only; exact hn)).trans (hg.block k (by omega) fun q => by have := hA k q.symm; omega), fun k cs t f' hk hn hr => (hpFar (by simp only; exact hn)).trans ((hg.block k (blkX hk) fun q => hr ⟨A, n, c, T, f, ho, q.symm⟩).trans hk), fun k hk => ?_⟩
 obtain ⟨A2, m, d, t, f', e1, e2⟩ := hk
 rw [h10] at e1
 simp only [List.setIfInBounds_toArray, List.set_cons_zero, Option.some.injEq, Obj.cells.injEq, Array.mk.injEq, List.cons.injEq, Value.slice.injEq] at e1
 rw [← e1.1.1.1] at e2
 rcases hat with q | q
 ·
  exact .inl ⟨A, n, c, T, f, ho, q ▸ e2⟩
 ·
  rw [q] at e2; injection e2 with e2
  obtain ⟨cs, hc⟩ := row_cells hown q
  have := blkX hc
  exact .inr ⟨by omega, by rw [World.size_setCell]; omega⟩
theorem ownsRow_far {W : World} {B n c sz : Nat} {e : TypeId} {A : Option Addr} {xs : List Value} (h : W.ownsRow B e sz (.slice A n c) n xs) {p : Addr} {u : Value} (hp : p.block < B) : (W.setCell p u).ownsRow B e sz (.slice A n c) n xs :=
 ⟨h.1, h.2.imp id fun ⟨g, cap, cur, e1, e2, hh, r⟩ => ⟨g, cap, cur, e1, e2, (hpFar (by omega)).trans hh, r⟩⟩
theorem elemS1 : Elem Tryz.prog 43 9 1 16 := elem_of (z := .string ⟨#[]⟩) Tryz.underlying43 (by kernel_rfl) rfl (by omega)
theorem encS1_one (s : ByteArray) : ∀ u ∈ encS1 s, u.oneCell' = true := by intro u hu; simp [encS1] at hu; subst hu; rfl
theorem ks_one {W : World} {g : Nat} {k : ByteArray} (h : W.heap[g]? = some (.cells #[.string k] 9 (0, 0))) : KS W (some ⟨g, 0, none⟩) 1 [k] := by
 refine ⟨rfl, fun _ => ⟨g, 0, rfl, blkX h, fun i x hx j u hu => ?_⟩⟩
 have hi : i = 0 := by have := (List.getElem?_eq_some_iff.1 hx).1; simp at this; omega
 subst hi
 simp at hx; subst hx
 have hj : j = 0 := by have := (List.getElem?_eq_some_iff.1 hu).1; simp [encS1] at this; omega
 subst hj
 simp [encS1] at hu; subst hu
 exact blkC h 0
structure InI (v : World) (N ob r1 : Nat) (r : Rg) (pre : Ct) (W : World) : Prop where
 bel : Below v.heap.size v W
 rng : W.heap[r1]? = some (.cells #[.string r.1, .string r.2] 32 (0, 0))
 out : ∃ A c, W.heap[ob]? = some (.cells #[.slice A (pre.filter fun y => hasG r y.1).length c] 43 (0, 0)) ∧ W.ownsRow N 9 1 (.slice A (pre.filter fun y => hasG r y.1).length c) (pre.filter fun y => hasG r y.1).length (flat encS1 ((pre.filter fun y => hasG r y.1).map (·.1)))
set_option maxRecDepth 100000 in
set_option maxHeartbeats 8000000 in
theorem stIn_any {base St M : Nat} {lst : Ct} {v : World} (h : StW base St M lst v) (r1 r2 : ByteArray) (hr : okG (r1, r2) = true) : Calls Tryz.prog 54 #[.pointer (some ⟨St, 0, none⟩), .agg #[.string r1, .string r2]] v fun e w' => ∃ A c, e = .returned (.tuple #[.slice A (lst.filter fun y => hasG (r1, r2) y.1).length c, .int .i64 0]) ∧ w'.ownsRow v.heap.size 9 1 (.slice A (lst.filter fun y => hasG (r1, r2) y.1).length c) (lst.filter fun y => hasG (r1, r2) y.1).length (flat encS1 ((lst.filter fun y => hasG (r1, r2) y.1).map (·.1))) ∧ Below v.heap.size v w' := by
 obtain ⟨W1, hW1⟩ : ∃ W1, W1 = v.alloc (.cells #[.string r1, .string r2] 32) := ⟨_, rfl⟩
 have k1 : Below v.heap.size v W1 := by rw [hW1]; exact (Below.refl _ v).alloc (Nat.le_refl _) _
 have b1 : W1.heap[v.heap.size]? = some (.cells #[.string r1, .string r2] 32 (0, 0)) := by rw [hW1]; exact hpNew _ _
 have h1 := h.below k1
 have hsz := okG_sz hr
 have hrg := fun W => rng_any r1 r2 W hsz.1 hsz.2
 rw [takeC_ok hr] at hrg
 have z0 := blkC b1 0; have z1 := blkC b1 1; have zx := blkX b1
 simp only [List.getElem?_toArray, List.getElem?_cons_zero, List.getElem?_cons_succ] at z0 z1
 replace h := Lh h; replace h1 := Lh h1; replace k1 := Lh k1; replace b1 := Lh b1; replace hsz := Lh hsz; replace hr := Lh hr; replace hW1 := Lh hW1
 refine (callsIn_wide (n := 8)).1 ?_
 refine callsIn_of_wp_marks Tryz.func54 rfl trivial ?_ rfl
 simp only [Tryz.ntmps54, List.size_toArray, List.length_cons, List.length_nil, Nat.reduceAdd, Nat.reduceSub, Array.replicate_succ, Array.replicate_zero, List.push_toArray, List.append_toArray, List.nil_append, List.cons_append]
 gi_wp2_with (first | (refine ⟨trivial, ?_⟩; gi_at_call 90; rw [← hW1.out]; refine (callsIn_wide.2 (stValid_any h1.out)).mono ?_; rintro e W2 ⟨rfl, rfl⟩) | (refine ⟨trivial, ?_⟩; gi_at_call 86; refine (callsIn_wide.2 (hrg _)).mono ?_; rintro e W3 ⟨rfl, b3⟩; replace b3 := Lh b3) | (refine ⟨trivial, ?_⟩; gi_at_call 159; refine (callsIn_wide.2 (each_any St _)).mono ?_; rintro e W5 ⟨rfl, rfl⟩))
 have hm := h1.out.below b3.out
 have k3 := k1.out.trans (b3.out.mono k1.out.size)
 have q3 := (b3.out.block _ (blkX b1.out)).trans b1.out
 obtain ⟨W4, hW4⟩ : ∃ W, W = W3.alloc (.cells #[.slice none 0 0] 43) := ⟨_, rfl⟩
 obtain ⟨W5, hW5⟩ : ∃ W, W = W4.alloc (.cells #[.pointer (some ⟨St, 0, none⟩)] 83) := ⟨_, rfl⟩
 have z4 : W4.heap.size = W3.heap.size + 1 := by rw [hW4]; simp
 have z5 : W5.heap.size = W3.heap.size + 2 := by rw [hW5]; simp [z4]
 have b4 : Below W3.heap.size W3 W4 := by rw [hW4]; exact (Below.refl _ _).alloc (Nat.le_refl _) _
 have b5 : Below W4.heap.size W4 W5 := by rw [hW5]; exact (Below.refl _ _).alloc (Nat.le_refl _) _
 have o4 : W4.heap[W3.heap.size]? = some (.cells #[.slice none 0 0] 43 (0, 0)) := by rw [hW4]; exact hpNew _ _
 have o5 := (b5.block _ (blkX o4)).trans o4
 have p5 : Boxed W5 (W3.heap.size + 1) 83 (.pointer (some ⟨St, 0, none⟩)) := by rw [hW5, ← z4]; exact Boxed.new W4 _ _
 have hS5 := (hm.below b4).below b5
 have q5 := (b5.block _ (blkX ((b4.block _ (blkX q3)).trans q3))).trans ((b4.block _ (blkX q3)).trans q3)
 have k5 := (k3.trans (b4.mono k3.size)).trans (b5.mono (Nat.le_trans k3.size b4.size))
 have lSt := hm.lt; have lM := hm.mlt
 have e1 := ne_cells o5 p5 (by decide)
 have e2 := ne_cells o5 hS5.blk (by decide)
 have e3 : M ≠ W3.heap.size := by omega
 have hrow : ∀ k, isRow W5 W3.heap.size k → k < W5.heap.size := by
  rintro k ⟨A, n', c, t, f, e1, e2⟩
  rw [o5] at e1
  simp only [Option.some.injEq, Obj.cells.injEq, Array.mk.injEq, List.cons.injEq, Value.slice.injEq] at e1
  rw [← e1.1.1.1] at e2; cases e2
 have hI0 : InI v W5.heap.size W3.heap.size v.heap.size (r1, r2) [] W5 := ⟨k5, q5, none, 0, o5, World.ownsRow_nil _ _ _ _⟩
 rw [← hW4, ← hW5]
 clear z0 z1 zx hrg o4 b4 b5 q3 hm
 refine wpIn_rangeMemG (R := RK) (Kp := Fr W3.heap.size W5.heap.size) (xs := lst) rfl (by omega) (gf := 216) (lb := #[.pointer (some ⟨W3.heap.size + 1, 0, none⟩)]) rfl trivial (enters_of Tryz.func216 (by kernel_rfl) rfl)
  (each_seq _ (W3.heap.size + 1) St M W3.heap.size W5.heap.size base lst (by omega) W5 p5 hS5 rfl (by omega) (by omega) (by omega) (by omega) (by omega) (fun e => e2 e.symm) e3 hrow) (fun A => Fr.refl _ _ A) (fun h h' => h.trans h') (fun A B row hg hr hN => Fr.grown (by omega) hN hg hr) (fun x vs W0 W1 h => by rw [h]; rfl) (fun x vs W0 => fun s A B row hs hg hr => hs)
  (InI v W5.heap.size W3.heap.size v.heap.size (r1, r2)) (fun _ _ _ => False) ?own (fun c s A B row hs => hs.elim) hI0
  (fun vs => { tmps := #[.pointer (some ⟨St, 0, none⟩), .agg #[.string r1, .string r2], undef, .pointer (some ⟨v.heap.size, 0, none⟩), .slice none 0 0, .int .i64 0, .pointer (some ⟨W3.heap.size, 0, none⟩), vs.getD 0 undef, .pointer (some ⟨St, 0, none⟩), .bool true, .bool false, .agg #[.string r1, .string r2], .int .i64 0, .bool false, .pointer (some ⟨St, 0, none⟩), .func (.func 216) #[] #[.pointer (some ⟨W3.heap.size + 1, 0, none⟩)], vs.getD 0 undef, vs.getD 1 undef, undef, undef, undef, undef, undef, undef, undef, undef], defers := [] }) ?assign ?body ?done (fun D c pre x rest W hD hxs hf => hf.elim)
 case own =>
  rintro pre X Y row ⟨i1, i2, A, c, i3, i4⟩ hg hr
  have hb := below_of_grown (base := v.heap.size) hg i1.size (fun g e => by have := (hr g e).1; have := k5.size; omega)
  refine ⟨i1.trans hb, (hg.block _ (blkX i2) (fun e => by have := (hr _ e.symm).1; have := k5.size; have := blkX q5; omega)).trans i2, A, c, (hg.block _ (blkX i3) (fun e => by have := (hr _ e.symm).1; omega)).trans i3, own_grownR i4 hg (fun r e => (hr r e).2)⟩
 case assign =>
  rintro l' x vs W0 W K rfl hK
  gi_wp2
  exact hK
 case body =>
  rintro l' pre x rest vs W0 W hxs hl' hL hgr hI0' ⟨i1, i2, A, c, i3, i4⟩ rfl
  have hsk := name_sz (h.out.ok x (by rw [hxs]; simp)).1
  have hpl : pre.length ≤ 64 := by have := h.out.len; rw [hxs] at this; simp at this; omega
  obtain ⟨k, y1, y2, y3, y4, y5⟩ := x
  simp only at hsk
  have hWN : W5.heap.size ≤ W.heap.size := by obtain ⟨o, e0, _⟩ := hL; have := (Array.getElem?_eq_some_iff.1 e0).1; have := hgr.size; omega
  clear hxs hI0 hI0' q5 o5 p5 hS5 hrow hL
  have hA : ∀ q, rowOf A = some q → W5.heap.size ≤ q := fun q e => (own_row i4 q e).1
  have z0 := blkC i2 0; have z1 := blkC i2 1; have zx := blkX i2
  simp only [List.getElem?_toArray, List.getElem?_cons_zero, List.getElem?_cons_succ] at z0 z1
  have hh := fun Z => hasG_any r1 r2 k Z hsz.out.1 hsz.out.2 (by omega)
  cases hb : hasG (r1, r2) k with
  | false =>
   have hfl : (pre ++ [(k, y1, y2, y3, y4, y5)]).filter (fun y => hasG (r1, r2) y.1) = pre.filter (fun y => hasG (r1, r2) y.1) := by rw [List.filter_append]; simp [hb]
   simp only [cnV]
   gi_wp2_with (refine ⟨trivial, ?_⟩; gi_at_call 58; refine (CallsIn.inRound l' (callsIn_wide.2 (hh _))).mono ?_; rintro e W7 ⟨rfl, b7⟩; rw [hb]; replace b7 := Lh b7)
   refine ⟨(keeps_belowR b7.out).from _, Fr.below (by omega) hWN b7.out, ⟨i1.trans (b7.out.mono i1.size), (b7.out.block _ (blkX i2)).trans i2, A, c, ?_, ?_⟩⟩
   ·
    rw [hfl]; exact (b7.out.block _ (blkX i3)).trans i3
   ·
    rw [hfl]; exact ⟨i4.1, i4.2.imp id fun ⟨g, cap, cur, e1, e2, hh, r⟩ => ⟨g, cap, cur, e1, e2, (b7.out.block _ (blkX hh)).trans hh, r⟩⟩
  | true =>
   have hfl : (pre ++ [(k, y1, y2, y3, y4, y5)]).filter (fun y => hasG (r1, r2) y.1) = pre.filter (fun y => hasG (r1, r2) y.1) ++ [(k, y1, y2, y3, y4, y5)] := by rw [List.filter_append]; simp [hb]
   have hfn : (pre.filter fun y => hasG (r1, r2) y.1).length ≤ 64 := Nat.le_trans (List.length_filter_le _ _) hpl
   obtain ⟨fl, hfe⟩ : ∃ fl, fl = pre.filter (fun y => hasG (r1, r2) y.1) := ⟨_, rfl⟩
   rw [← hfe] at hfl hfn i3 i4
   replace hfl := Lh hfl; replace hfe := Lh hfe; replace i1 := Lh i1; replace i2 := Lh i2; replace i3 := Lh i3; replace i4 := Lh i4; replace hA := Lh hA
   simp only [cnV]
   gi_wp2_with (fail)
   refine ⟨trivial, ?_⟩
   refine (CallsIn.inRound l' (callsIn_wide.2 (hh _))).mono ?_
   rintro e W7 ⟨rfl, b7⟩
   rw [hb]
   clear z0 z1 zx hh
   have o7 := (b7.block _ (blkX i3.out)).trans i3.out
   obtain ⟨W8, hW8⟩ : ∃ W, W = W7.alloc (.cells #[.string k] 9) := ⟨_, rfl⟩
   have b8 : Below W7.heap.size W7 W8 := by rw [hW8]; exact (Below.refl _ _).alloc (Nat.le_refl _) _
   have hone : KS W8 (some ⟨W7.heap.size, 0, none⟩) 1 [k] := ks_one (by rw [hW8]; exact hpNew _ _)
   have b78 := b7.trans (b8.mono b7.size)
   have i8 : W8.ownsRow W5.heap.size 9 1 (.slice A fl.length c) fl.length (flat encS1 (fl.map (·.1))) := ⟨i4.out.1, i4.out.2.imp id fun ⟨g, cap, cur, e1, e2, hh, r⟩ => ⟨g, cap, cur, e1, e2, (b78.block _ (blkX hh)).trans hh, r⟩⟩
   have o8 := (b8.block _ (blkX o7)).trans o7
   obtain ⟨A', c', w9, hrun, -, hown, hgr9, hat⟩ := append_sl elemS1 (fun _ => rfl) encS1_one (ty := 43) (d := 1) i8 (Nat.le_trans hWN b78.size) hone (by omega) (by omega)
   have hF := (Fr.below (ob := W3.heap.size) (N := W5.heap.size) (by omega) hWN b78).trans (Fr.app o8 (fun q e => hA.out q e) hgr9 hat hown (by omega) (Nat.le_trans hWN b78.size))
   have hne : rowOf A ≠ some W3.heap.size := (fun q => by have := hA.out _ q; omega)
   have hnv : rowOf A ≠ some v.heap.size := (fun q => by have := hA.out _ q; have := blkX i3.out; have := k3.size; omega)
   have o9 := (hgr9.block _ (blkX o8) (fun q => hne q.symm)).trans o8
   have o10 := hpSet (i := 0) (v := .slice A' (fl.length + 1) c') o9
   have hk9 : KeepsOthers W8 w9 := KeepsOthers.of_grownBy hgr9 (fun j o hj ho => by obtain ⟨cs, hc⟩ := row_cells i8 hj; rw [hc] at ho; injection ho with ho; subst ho; rfl)
   have hb9 : Below v.heap.size v w9 := (i1.out.trans (b78.mono i1.out.size)).trans (below_of_grown hgr9 (Nat.le_trans i1.out.size b78.size) (fun g e => by have := hA.out g e; have := k3.size; omega))
   have hfin := Lh (show memPost W5.heap.size (Fr W3.heap.size W5.heap.size) (InI v W5.heap.size W3.heap.size v.heap.size (r1, r2)) (fun _ _ _ => False) (pre ++ [(k, y1, y2, y3, y4, y5)]) W .normal { tmps := #[], defers := [] } (w9.setCell ⟨W3.heap.size, 0, none⟩ (.slice A' (fl.length + 1) c')) from ⟨(((keeps_belowR b78).trans hk9).trans (KeepsOthers.setCell _ _ _)).from _, hF, hb9.setCell (by simp only; exact k3.size) _, (hpFar (by simp only; have := k3.size; have := blkX i2.out; intro e; have := ne_cells i2.out i3.out (by decide); omega)).trans ((hgr9.block _ (Nat.lt_of_lt_of_le (blkX i2.out) b78.size) (fun q => hnv q.symm)).trans ((b78.block _ (blkX i2.out)).trans i2.out)), A', c', by rw [hfl.out]; simpa using o10, by rw [hfl.out]; simpa using (ownsRow_far hown (by simp only; omega))⟩)
   have s7 : W7.cell? ⟨W3.heap.size, 0, none⟩ = some (.slice A fl.length c) := blkC o7 0
   have x7 := blkX o7
   have s9 : w9.cell? ⟨W3.heap.size, 0, none⟩ = some (.slice A fl.length c) := blkC o9 0
   have f9 := blkF o9 0
   have x9 := blkX o9
   have s8 : W8.cell? ⟨W3.heap.size, 0, none⟩ = some (.slice A fl.length c) := blkC o8 0
   rw [hW8] at hrun s8
   clear hF hk9 hb9 o10 o9 hown hat hgr9 i8 hone b8 b78 o8 o7 hne hnv
   replace b7 := Lh b7
   replace hW8 := Lh hW8
   gi_wp2
   exact hfin.out
 case done =>
  rintro D W hD ⟨i1, i2, A, c, i3, i4⟩ hK
  have s0 : W.cell? ⟨W3.heap.size, 0, none⟩ = some (.slice A (lst.filter fun y => hasG (r1, r2) y.1).length c) := blkC i3 0
  have i5 := own_grownR i4 (grownBy_putObj' W D (.deferred none)) (fun r e => by cases e; exact ⟨_, hK, rfl⟩)
  have hb5 := i1.trans (below_of_grown (base := v.heap.size) (grownBy_putObj' W D (.deferred none)) i1.size (fun g e => by cases e; have := k5.size; omega))
  have i6 := Lh (show (W.putObj D (.deferred none)).ownsRow v.heap.size 9 1 _ _ _ from ⟨i5.1, i5.2.imp id fun ⟨g, cap, cur, e1, e2, r⟩ => ⟨g, cap, cur, e1, Nat.le_trans k5.size e2, r⟩⟩)
  replace hb5 := Lh hb5
  have x3 := blkX i3
  clear i5 i4 i3 i2 hI0 q5 o5 p5 hS5 hrow
  gi_wp2
  refine ⟨by simp, .inl ⟨_, _, rfl, run_takeDeferred hK, ?_⟩⟩
  refine ⟨.tuple #[.slice A (lst.filter fun y => hasG (r1, r2) y.1).length c, .int .i64 0], by simp [results, Tryz.results54, go_sem], ?_⟩
  exact ⟨A, c, rfl, i6.out, hb5.out⟩
end Go.Proofs.YtgnjnpddehdmcaaGreatDoor
