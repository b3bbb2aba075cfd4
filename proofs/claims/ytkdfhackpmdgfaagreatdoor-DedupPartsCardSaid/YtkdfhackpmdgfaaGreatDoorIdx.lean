/- slices.IndexFunc at Take's closure. -/
import Derived.Test.YtkdfhackpmdgfaaGreatDoorTake1
namespace Go.Proofs.YtkdfhackpmdgfaaGreatDoor
open Go.RowKit Go.Shelf
set_option linter.unusedSimpArgs false
set_option linter.unusedVariables false
set_option linter.unusedSectionVars false
set_option maxRecDepth 10000
/-- What stands while Take's closure is called: the range's box, the list that it fills; what was there but the row of the entries is as it was. -/
structure DelS (w : World) (A : Option Addr) (R O : Nat) (a b : ByteArray) (L : List Ef) (W : World) : Prop where
  chg : Chg (fun k => rowOf A = some k) w W
  rng : W.heap[R]? = some (.cells #[.string a, .string b] 31 (0, 0))
  out : ∃ B m d, OutB w.heap.size O B m d L W
theorem DelS.below {w W W' : World} {A : Option Addr} {R O : Nat} {a b : ByteArray} {L : List Ef} (h : DelS w A R O a b L W) (hb : Below W.heap.size W W') : DelS w A R O a b L W' := by
  obtain ⟨h1, h2, B, m, d, h3⟩ := h
  exact ⟨h1.thenB hb, (hb.block _ (blkX h2)).trans h2, B, m, d, h3.below hb⟩
/-- What a closure's call leaves: the answer, the list, the rows of entries. -/
def Took2 (w : World) (A : Option Addr) (R O : Nat) (a b : ByteArray) (L : List Ef) (r : Bool) (x : Ef) (W : World) (e : Ending) (w' : World) : Prop :=
  e = .returned (.bool r) ∧ DelS w A R O a b (if r then L ++ [x] else L) w' ∧ (∀ (k : Nat) (cs : Array Value) (f : Nat × Nat), W.heap[k]? = some (.cells cs 67 f) → w'.heap[k]? = some (.cells cs 67 f)) ∧ W.heap.size ≤ w'.heap.size
theorem DelS.took {w W : World} {A : Option Addr} {R O : Nat} {a b : ByteArray} {L : List Ef} (h : DelS w A R O a b L W) (x : En) (hm : L.length ≤ 99999) (hok : okG (a, b) = true) (hk : nameB x.k = true) (ha : a.size ≤ 140737488355328) (hbs : b.size ≤ 140737488355328) (hks : x.k.size ≤ 140737488355328) :
    Calls Tryz.prog 27 #[.agg #[.int .i64 x.r.1, .int .i64 x.r.2.1, .string x.r.2.2, .int .i64 x.e.1, .int .i64 x.e.2.1, .int .i64 x.e.2.2, .string x.k], .pointer (some ⟨R, 0, none⟩), .pointer (some ⟨O, 0, none⟩)] W (Took2 w A R O a b L (inG (a, b) x.k) x.e W) := by
  obtain ⟨h1, h2, B, m, d, h3⟩ := h
  refine (take1_any a b R w.heap.size O B m d L x W h1.size (by rw [← h3.len]; exact hm) h2 h3 hok hk ha hbs hks).mono ?_
  rintro e w' ⟨B', m', d', rfl, q1, q2, q3⟩
  have hOl : w.heap.size ≤ O := h3.ge
  have hBl := fun g (q : rowOf B = some g) => (own_row h3.own g q).1
  refine ⟨rfl, ⟨h1.trans q2 fun k hk q => ?_, ?_, B', m', d', q1⟩, fun k cs f hc => ?_, q2.size⟩
  · rcases q with q | q
    · omega
    · have := hBl k q; omega
  · refine (q2.block R (blkX h2) fun q => ?_).trans h2
    rcases q with q | q
    · rw [q, h3.blk] at h2; injection h2 with h2; injection h2 with _ h2; exact absurd h2 (by decide)
    · exact h3.rowNe h2 (by decide) q
  · refine (q2.block k (blkX hc) fun q => ?_).trans hc
    rcases q with q | q
    · rw [q, h3.blk] at hc; injection hc with hc; injection hc with _ hc; exact absurd hc (by decide)
    · exact h3.rowNe hc (by decide) q
theorem own_typed {W W' : World} {base n c : Nat} {A : Option Addr} {xs : List Value} (h : W.ownsRow base 67 7 (.slice A n c) n xs) (hk : ∀ (k : Nat) (cs : Array Value) (f : Nat × Nat), W.heap[k]? = some (.cells cs 67 f) → W'.heap[k]? = some (.cells cs 67 f)) : W'.ownsRow base 67 7 (.slice A n c) n xs := by
  rcases h.2 with e | ⟨g, cp, cur, e1, e2, hh, r⟩
  · exact ⟨h.1, .inl e⟩
  · exact ⟨h.1, .inr ⟨g, cp, cur, e1, e2, hk _ _ _ hh, r⟩⟩
/-- What IndexFunc leaves. -/
def Indexed (w : World) (base : Nat) (A : Option Addr) (n c : Nat) (l : List En) (R O : Nat) (a b : ByteArray) (L : List Ef) (e : Ending) (w' : World) : Prop :=
  w'.ownsRow base 67 7 (.slice A n c) n (flat encP l) ∧
  ((e = .returned (.int .i64 (-1)) ∧ (∀ x ∈ l, inG (a, b) x.k = false) ∧ DelS w A R O a b L w') ∨
   (∃ (i : Nat) (x : En), e = .returned (.int .i64 i) ∧ l[i]? = some x ∧ inG (a, b) x.k = true ∧ (∀ y ∈ l.take i, inG (a, b) y.k = false) ∧ DelS w A R O a b (L ++ [x.e]) w'))
set_option maxHeartbeats 8000000 in
theorem index_any {w W : World} {A : Option Addr} {R O : Nat} {a b : ByteArray} {L : List Ef} {base n c : Nat} {l : List En} (h : DelS w A R O a b L W) (hown : W.ownsRow base 67 7 (.slice A n c) n (flat encP l)) (hl : l.length = n) (hn : n ≤ 10000) (hm : L.length ≤ 9999) (hok : okG (a, b) = true) (hkl : ∀ x ∈ l, nameB x.k = true ∧ x.k.size ≤ 140737488355328) (ha : a.size ≤ 140737488355328) (hbs : b.size ≤ 140737488355328) :
    Calls Tryz.prog 51 #[.slice A n c, .func (.func 27) #[] #[.pointer (some ⟨R, 0, none⟩), .pointer (some ⟨O, 0, none⟩)]] W (Indexed w base A n c l R O a b L) := by
  replace h := Lib.hid h; replace hown := Lib.hid hown; replace hl := Lib.hid hl; replace hok := Lib.hid hok; replace hkl := Lib.hid hkl
  go_enter Tryz.func51, Tryz.ntmps51
  go_wp2_with (fail)
  go_loopw [8] (fun i wr => ∃ k : Nat, k ≤ n ∧ i = .int .i64 k ∧ (∀ y ∈ l.take k, inG (a, b) y.k = false) ∧ DelS w A R O a b L wr ∧ wr.ownsRow base 67 7 (.slice A n c) n (flat encP l)) (fun i _ => n - (intOf i).toNat)
  case atStart => exact ⟨0, by omega, rfl, by simp, h.out, hown.out⟩
  case round =>
    revert wr
    intro W1 hrel
    obtain ⟨k, hk, rfl, hno, hS, ho⟩ := hrel
    by_cases hlt : k < n
    · obtain ⟨bb, o, x, rfl, hbl, hx, p0, p1, p2, p3, p4, p5, p6⟩ := PS.at_ (SL.of_own encP_len ho hl.out) hlt
      obtain ⟨hk1, hk2⟩ := hkl.out x (List.mem_of_getElem? hx)
      have hc := hS.took x (by omega) hok.out hk1 ha hbs hk2
      have k0 : (0 : Int) ≤ k := by omega
      have k1 : (k : Int) < n := by omega
      have hfin : inG (a, b) x.k = true → ∀ W2, W2.ownsRow base 67 7 (.slice (some ⟨bb, o, none⟩) n c) n (flat encP l) → DelS w (some ⟨bb, o, none⟩) R O a b (L ++ [x.e]) W2 → Indexed w base (some ⟨bb, o, none⟩) n c l R O a b L (.returned (.int .i64 k)) W2 := fun q W2 q1 q2 => ⟨q1, .inr ⟨k, x, rfl, hx, q, hno, q2⟩⟩
      have hno2 : inG (a, b) x.k = false → ∀ y ∈ l.take (k + 1), inG (a, b) y.k = false := fun q y hy => by
        rw [List.take_add_one, hx] at hy
        simp only [Option.toList, List.mem_append, List.mem_singleton] at hy
        rcases hy with hy | rfl
        · exact hno y hy
        · exact q
      cases hin : inG (a, b) x.k with
      | true =>
        rw [hin] at hc
        have hfin2 := Lib.hid (hfin hin)
        replace hin := Lib.hid hin; replace hS := Lib.hid hS; replace ho := Lib.hid ho; replace hno := Lib.hid hno; replace hx := Lib.hid hx; replace hno2 := Lib.hid hno2; replace hfin := Lib.hid hfin
        go_wp2_with (fail)
        refine hc.mono ?_
        rintro e w2 ⟨rfl, s2, hty, hsz⟩
        have ho2 := Lib.hid (own_typed ho.out hty)
        replace s2 := Lib.hid s2; replace hty := Lib.hid hty
        clear hc
        go_wp2_with (fail)
        go_ret
        exact hfin2.out _ ho2.out s2.out
      | false =>
        rw [hin] at hc
        have hno3 := Lib.hid (hno2 hin)
        replace hin := Lib.hid hin; replace hS := Lib.hid hS; replace ho := Lib.hid ho; replace hno := Lib.hid hno; replace hx := Lib.hid hx; replace hno2 := Lib.hid hno2; replace hfin := Lib.hid hfin
        go_wp2_with (fail)
        refine hc.mono ?_
        rintro e w2 ⟨rfl, s2, hty, hsz⟩
        have ho2 := Lib.hid (own_typed ho.out hty)
        replace s2 := Lib.hid s2; replace hty := Lib.hid hty
        clear hc
        go_wp2_with (fail)
        exact ⟨⟨k + 1, by omega, by go_num, hno3.out, s2.out, ho2.out⟩, by simp [intOf]; omega⟩
    · obtain rfl : k = n := by omega
      rw [List.take_of_length_le (by have := hl.out; omega)] at hno
      have hfin : Indexed w base A k c l R O a b L (.returned (.int .i64 (-1))) W1 := ⟨ho, .inl ⟨rfl, hno, hS⟩⟩
      replace hfin := Lib.hid hfin; replace hS := Lib.hid hS; replace ho := Lib.hid ho; replace hno := Lib.hid hno
      go_wp2_with (fail)
      go_ret
      exact hfin.out
end Go.Proofs.YtkdfhackpmdgfaaGreatDoor
