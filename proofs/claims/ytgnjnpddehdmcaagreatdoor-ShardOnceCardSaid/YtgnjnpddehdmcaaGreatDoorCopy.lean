/- Clone; the program's Copy. -/
import Derived.Test.YtgnjnpddehdmcaaGreatDoorStP
import Derived.Test.YtgnjnpddehdmcaaGreatDoorRange
import Derived.Test.YtgnjnpddehdmcaaGreatDoorTake
namespace Go.Proofs.YtgnjnpddehdmcaaGreatDoor
open Go.RowKit Go.Shelf
set_option linter.unusedSimpArgs false
set_option linter.unusedVariables false
set_option linter.unusedSectionVars false
set_option maxRecDepth 10000
theorem StW.del {base St M : Nat} {l : Ct} {W : World} (h : StW base St M l W) (s : ByteArray) (hs : s.size ≤ maxLen) (ty : TypeId) :
  ∃ W', (Builtin.delete_ #[154, 9] ty #[.map (some M), .string s]).run Tryz.prog W = .ok (.tuple #[]) W' ∧ StTo base St M (delA l s) W W' := by
 obtain ⟨W', hr, hm, ht⟩ := MapS.drop ltS h.map h.ord undS undC s hs ty
 have hch := turned_chg ht
 refine ⟨W', hr, ⟨h.ge, h.gm, (hch.block _ h.lt h.ne).trans h.blk, hm, ord_delA h.ord, ?_, fun x hx => h.ok x (List.mem_filter.1 hx).1⟩, hch⟩
 have := List.length_filter_le (fun x : ByteArray × Cn => !decide (x.1 = s)) l
 have := h.len
 unfold delA; omega
def stRmL (l : Ct) (s : ByteArray) : Ct := if hasA l s then delA l s else l
set_option maxHeartbeats 8000000 in
theorem stRemove_any {base St M : Nat} {l : Ct} {w : World} (h : StW base St M l w) (s : ByteArray) (hs : s.size ≤ 140737488355328) : Calls Tryz.prog 78 #[.pointer (some ⟨St, 0, none⟩), .string s] w fun e w' => e = .returned (.int .i64 (stE l s)) ∧ StTo base St M (stRmL l s) w w' := by
 have hf := find_any' h s (by unfold maxLen; omega)
 obtain ⟨ll, hll⟩ : ∃ z, z = stRmL l s := ⟨_, rfl⟩
 rw [← hll]
 unfold stRmL at hll
 have hEE : stE l s = if hasA l s then 0 else 5 := rfl
 simp only [cnV] at hf
 generalize stV l s = cc at *
 obtain ⟨y1, y2, y3, y4, y5⟩ := cc
 simp only at hf
 generalize stE l s = fe at *
 replace h := Lh h
 cases hh : hasA l s with
 | false =>
  simp only [hh, Bool.false_eq_true, if_false] at hEE hll
  subst hEE
  rw [hll]
  clear hll
  go_enter Tryz.func78, Tryz.ntmps78
  go_wp2_with (fail)
  refine hf.mono ?_
  rintro e w2 ⟨rfl, b2⟩
  have b3 : Below w2.heap.size w2 (w2.alloc (.cells #[.int .i64 y1, .int .i64 y2, .int .i64 y3, .int .i64 y4, .int .i64 y5] 58)) := (Below.refl _ _).alloc (Nat.le_refl _) _
  have k3 := Lh (b2.trans (b3.mono b2.size))
  clear b2 hf b3
  go_wp2_with (fail)
  go_ret
  exact ⟨rfl, StTo.same h.out k3.out⟩
 | true =>
  simp only [hh, if_true] at hEE hll
  subst hEE
  rw [hll]
  clear hll
  go_enter Tryz.func78, Tryz.ntmps78
  go_wp2_with (fail)
  refine hf.mono ?_
  rintro e w2 ⟨rfl, b2⟩
  have b3 : Below w2.heap.size w2 (w2.alloc (.cells #[.int .i64 y1, .int .i64 y2, .int .i64 y3, .int .i64 y4, .int .i64 y5] 58)) := (Below.refl _ _).alloc (Nat.le_refl _) _
  have k3 := Lh (b2.trans (b3.mono b2.size))
  have h2 := h.out.below b2
  have h3 := h.out.below k3.out
  have c0 := blkC h3.blk 0
  have c2 := blkC h2.blk 0
  simp only [List.getElem?_toArray, List.getElem?_cons_zero] at c0 c2
  have hlt2 := h2.lt
  have hrun0 := fun ty => h3.del s (by unfold maxLen; omega) ty
  obtain ⟨W7, hrun, hto⟩ := hrun0 0
  replace hto := Lh hto; replace h2 := Lh h2; replace h3 := Lh h3
  clear b2 hf b3 hrun0
  go_wp2_with (fail)
  go_ret
  exact ⟨rfl, hto.out.pre k3.out⟩
attribute [local go_sem ↓] hideAppend
end Go.Proofs.YtgnjnpddehdmcaaGreatDoor
