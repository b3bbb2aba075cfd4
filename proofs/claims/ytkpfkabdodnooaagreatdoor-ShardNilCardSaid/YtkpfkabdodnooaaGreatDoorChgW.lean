/- What a call may have turned: the blocks of a set, and new ones. No program in sight. -/
import Derived.Test.YtkpfkabdodnooaaGreatDoorWout
import Derived.Test.YtkpfkabdodnooaaGreatDoorHas
namespace Go.Proofs.YtkpfkabdodnooaaGreatDoor
open Go.RowKit Go.Shelf
set_option linter.unusedSimpArgs false
set_option linter.unusedVariables false
set_option linter.unusedSectionVars false
set_option maxRecDepth 10000
def idxOf (p : Rg → Bool) (l : List Rg) : Int := match l.findIdx? p with | some i => (i : Int) | none => -1
theorem idxOf_none {p : Rg → Bool} {l : List Rg} (h : ∀ x ∈ l, p x = false) : idxOf p l = -1 := by
  unfold idxOf
  rw [List.findIdx?_eq_none_iff.2 h]
theorem idxOf_at {p : Rg → Bool} {l : List Rg} {k : Nat} {x : Rg} (hx : l[k]? = some x) (hp : p x = true) (hb : ∀ y ∈ l.take k, p y = false) : idxOf p l = k := by
  unfold idxOf
  have hk := (List.getElem?_eq_some_iff.1 hx).1
  have : l.findIdx? p = some k := by
    rw [List.findIdx?_eq_some_iff_getElem]
    refine ⟨hk, ?_, fun j hj => ?_⟩
    · rw [(List.getElem?_eq_some_iff.1 hx).2]; exact hp
    · rw [Bool.not_eq_true]
      exact hb _ (List.mem_iff_getElem?.2 ⟨j, by rw [List.getElem?_take, if_pos hj, List.getElem?_eq_getElem (by omega)]⟩)
  rw [this]
theorem idxOf_lt {p : Rg → Bool} {l : List Rg} : decide (0 ≤ idxOf p l) = l.any p := by
  unfold idxOf
  cases h : l.findIdx? p with
  | none =>
    have := List.findIdx?_eq_none_iff.1 h
    rw [show l.any p = false from by rw [List.any_eq_false]; intro x hx; rw [this x hx]; simp]
    rfl
  | some i =>
    have := List.findIdx?_eq_some_iff_getElem.1 h
    obtain ⟨hi, hp, _⟩ := this
    rw [show l.any p = true from List.any_eq_true.2 ⟨_, List.getElem_mem hi, hp⟩]
    simp
def Says (g : Nat) (lb : Array Value) (p : Rg → Bool) (l : List Rg) (w : World) : Prop := ∀ x ∈ l, ∀ W, Below w.heap.size w W → Calls Tryz.prog g (#[.agg #[.string x.1, .string x.2]] ++ lb) W fun e W' => e = .returned (.bool (p x)) ∧ Below W.heap.size W W'
set_option maxHeartbeats 4000000 in
theorem idxG_any {g : Nat} {lb : Array Value} (eg : ∀ args w, (callFunc g args).run Tryz.prog w = .ok (.enter g args) w) {p : Rg → Bool} {l : List Rg} {A : Option Addr} {n c : Nat} {w : World} (hl : GS w A n l) (hn : n ≤ 1000000) (hf : Says g lb p l w) :
    Calls Tryz.prog 68 #[.slice A n c, .func (.func g) #[] lb] w fun e w' => e = .returned (.int .i64 (idxOf p l)) ∧ Below w.heap.size w w' := by
  obtain ⟨z, hz⟩ : ∃ z, z = idxOf p l := ⟨_, rfl⟩
  rw [← hz]
  replace hl := Lib.hid hl; replace hf := Lib.hid hf; replace hz := Lib.hid hz
  go_enter Tryz.func68, Tryz.ntmps68
  go_wp2_with (fail)
  go_loopw [8] (fun i wr => ∃ k : Nat, k ≤ n ∧ i = .int .i64 k ∧ (∀ x ∈ l.take k, p x = false) ∧ Below w.heap.size w wr) (fun i _ => n - (intOf i).toNat)
  case atStart => exact ⟨0, by omega, rfl, by simp, Below.refl _ _⟩
  case round =>
    revert wr
    intro W1 hrel
    obtain ⟨k, hk, rfl, hall, hbel⟩ := hrel
    by_cases hlt : k < n
    · obtain ⟨b, o, x, rfl, hbl, hx, hc⟩ := SL.at_ hl.out hlt
      obtain ⟨xa, xb⟩ := x
      have s0 := (hbel.cell (p := ⟨b, _, none⟩) hbl).trans (hc 0 _ rfl)
      have s1 := (hbel.cell (p := ⟨b, _, none⟩) hbl).trans (hc 1 _ rfl)
      rw [Nat.add_zero] at s0
      clear hc
      have hr := hf.out (xa, xb) (List.mem_of_getElem? hx) W1 hbel
      have hnx : ∀ y, y ∈ l.take (k + 1) → y ∈ l.take k ∨ y = (xa, xb) := fun y hy => by
        rw [List.take_add_one, hx] at hy
        rcases List.mem_append.1 hy with h | h
        · exact .inl h
        · exact .inr (by simpa using h)
      have j0 : (0 : Int) ≤ k := by omega
      have j1 : (k : Int) < (n : Int) := by omega
      replace hbel := Lib.hid hbel; replace hx := Lib.hid hx; replace hall := Lib.hid hall; replace hnx := Lib.hid hnx
      cases hp : p (xa, xb) with
      | true =>
        rw [hp] at hr
        have hzz : z = k := by rw [hz.out]; exact idxOf_at hx.out hp hall.out
        replace hp := Lib.hid hp
        subst hzz
        go_wp2_with (fail)
        refine hr.mono ?_
        rintro e w2 ⟨rfl, b2⟩
        have hb2 := Lib.hid (hbel.out.trans (b2.mono hbel.out.size))
        clear b2 s0 s1 hr
        go_wp2_with (fail)
        go_ret
        exact ⟨rfl, hb2.out⟩
      | false =>
        rw [hp] at hr
        replace hp := Lib.hid hp
        go_wp2_with (fail)
        refine hr.mono ?_
        rintro e w2 ⟨rfl, b2⟩
        have hb2 := Lib.hid (hbel.out.trans (b2.mono hbel.out.size))
        clear b2 s0 s1 hr
        go_wp2_with (fail)
        exact ⟨⟨k + 1, by omega, by go_num, fun y hy => by
          rcases hnx.out y hy with h | rfl
          · exact hall.out y h
          · exact hp.out, hb2.out⟩, by simp [intOf]; omega⟩
    · obtain rfl : k = n := by omega
      have hzz : z = -1 := by rw [hz.out]; exact idxOf_none fun y hy => hall y (by rw [List.take_of_length_le (by have := hl.out.1; omega)]; exact hy)
      have j1 : ¬ (k : Int) < (k : Int) := by omega
      replace hbel := Lib.hid hbel; replace hall := Lib.hid hall
      subst hzz
      go_wp2_with (fail)
      go_ret
      exact ⟨rfl, hbel.out⟩
theorem contG_any {g : Nat} {lb : Array Value} (eg : ∀ args w, (callFunc g args).run Tryz.prog w = .ok (.enter g args) w) {p : Rg → Bool} {l : List Rg} {A : Option Addr} {n c : Nat} {w : World} (hl : GS w A n l) (hn : n ≤ 1000000) (hf : Says g lb p l w) :
    Calls Tryz.prog 35 #[.slice A n c, .func (.func g) #[] lb] w fun e w' => e = .returned (.bool (l.any p)) ∧ Below w.heap.size w w' := by
  have hi := idxG_any (c := c) eg hl hn hf
  rw [← idxOf_lt]
  generalize idxOf p l = z at *
  replace hl := Lib.hid hl; replace hf := Lib.hid hf
  go_enter Tryz.func35, Tryz.ntmps35
  go_wp2_with (fail)
  refine hi.mono ?_
  rintro e w2 ⟨rfl, b2⟩
  have hb2 := Lib.hid b2
  clear b2 hi
  by_cases hz : 0 ≤ z
  · have hd : decide (0 ≤ z) = true := decide_eq_true hz
    clear hd
    go_wp2_with (fail)
    go_ret
    exact ⟨by simp [hz], hb2.out⟩
  · have hd : decide (0 ≤ z) = false := decide_eq_false hz
    clear hd
    go_wp2_with (fail)
    go_ret
    exact ⟨by simp [hz], hb2.out⟩
end Go.Proofs.YtkpfkabdodnooaaGreatDoor

namespace Go.Proofs.YtkpfkabdodnooaaGreatDoor
set_option linter.unusedVariables false
open Go.RowKit
structure Chg (S : Nat → Prop) (w w' : World) : Prop where
  os : w'.os = w.os
  tape : w'.tape = w.tape
  output : w'.output = w.output
  size : w.heap.size ≤ w'.heap.size
  block : ∀ k, k < w.heap.size → ¬ S k → w'.heap[k]? = w.heap[k]?
section
variable {S S' : Nat → Prop} {a w w' w'' : World}
theorem Chg.refl (S : Nat → Prop) (w : World) : Chg S w w := ⟨rfl, rfl, rfl, Nat.le_refl _, fun _ _ _ => rfl⟩
theorem Chg.trans (h : Chg S w w') (h' : Chg S' w' w'') (hS : ∀ k, k < w.heap.size → S' k → S k) : Chg S w w'' :=
  ⟨h'.os.trans h.os, h'.tape.trans h.tape, h'.output.trans h.output, Nat.le_trans h.size h'.size,
    fun k hk hn => (h'.block k (Nat.lt_of_lt_of_le hk h.size) fun q => hn (hS k hk q)).trans (h.block k hk hn)⟩
theorem Chg.of_below (h : Below w.heap.size w w') (S : Nat → Prop) : Chg S w w' := ⟨h.os, h.tape, h.output, h.size, fun k hk _ => h.block k hk⟩
theorem Chg.of_grown {row : Option Nat} (h : w.grownBy w' row) (hS : ∀ k, row = some k → S k) : Chg S w w' :=
  ⟨h.os, h.tape, h.output, h.size, fun k hk hn => h.block k hk fun e => hn (hS k e.symm)⟩
theorem Chg.below {B : Nat} (h : Chg S w w') (hB : B ≤ w.heap.size) (hS : ∀ k, k < B → ¬ S k) : Below B w w' :=
  ⟨h.os, h.tape, h.output, h.size, fun k hk => h.block k (Nat.lt_of_lt_of_le hk hB) (hS k hk)⟩
theorem Chg.belowAfter {B : Nat} (h0 : Below B a w) (h : Chg S w w') (hB : B ≤ w.heap.size) (hS : ∀ k, k < B → ¬ S k) : Below B a w' := h0.trans (h.below hB hS)
theorem Chg.drew (h : Chg S a w) : Chg S a w.drew := ⟨h.os, h.tape, h.output, h.size, h.block⟩
theorem Chg.drewN (h : Chg S a w) (n : Nat) : Chg S a (w.drewN n) := ⟨h.os, h.tape, h.output, h.size, h.block⟩
theorem Chg.alloc (h : Chg S a w) (o : Obj) : Chg S a (w.alloc o) :=
  ⟨h.os, h.tape, h.output, Nat.le_trans h.size (by simp), fun k hk hn => (Below.heap_alloc w o k (Nat.lt_of_lt_of_le hk h.size)).trans (h.block k hk hn)⟩
theorem Chg.setCell (h : Chg S a w) {p : Addr} (hp : p.block < a.heap.size → S p.block) (u : Value) : Chg S a (w.setCell p u) :=
  ⟨h.os, h.tape, h.output, by simpa [World.setCell] using h.size, fun k hk hn => (Below.heap_setCell w p u k (by rintro rfl; exact hn (hp hk))).trans (h.block k hk hn)⟩
theorem Chg.thenB (h : Chg S a w) (h' : Below w.heap.size w w') : Chg S a w' := h.trans (Chg.of_below h' S) fun _ _ q => q
end

end Go.Proofs.YtkpfkabdodnooaaGreatDoor
