/- A table with the world around it. -/
import Derived.Test.YtkdfhackpmdgfaaGreatDoorCopy
import Derived.Test.YtkdfhackpmdgfaaGreatDoorGet
import Derived.Test.YtkdfhackpmdgfaaGreatDoorAll
import Derived.Test.YtkdfhackpmdgfaaGreatDoorEqE
namespace Go.Proofs.YtkdfhackpmdgfaaGreatDoor
open Go.RowKit Go.Shelf
set_option linter.unusedSimpArgs false
set_option linter.unusedVariables false
set_option linter.unusedSectionVars false
set_option maxRecDepth 10000
theorem ord_putL {size : Int} {P : List En} {x : En} (h : Ord P) : Ord (putL size P x) := by
  unfold putL
  by_cases hc : putC size P x = 0
  · rw [if_pos hc]
    exact ord_ins h (look_none (putC_zero hc).2.1)
  · rw [if_neg hc]; exact h
theorem ok_putL {size : Int} {P : List En} {x : En} (h : ∀ y ∈ P, okP y = true) : ∀ y ∈ putL size P x, okP y = true := by
  unfold putL
  by_cases hc : putC size P x = 0
  · rw [if_pos hc]
    intro y hy
    rcases mem_ins.1 hy with rfl | hy
    · exact (putC_zero hc).1
    · exact h y hy
  · rw [if_neg hc]; exact h
theorem ord_takeL {g : Rg} {P : List En} (h : Ord P) : Ord (takeL g P) := by
  unfold takeL
  split
  · exact h.filter _
  · exact h
theorem ok_takeL {g : Rg} {P : List En} (h : ∀ y ∈ P, okP y = true) : ∀ y ∈ takeL g P, okP y = true := by
  unfold takeL
  split
  · intro y hy
    exact h y (List.mem_filter.1 hy).1
  · exact h
/-- What lies outside of a table and its row of entries stays. -/
def Kp (D : Nat) (w w' : World) : Prop := ∀ (k : Nat) (cs : Array Value) (T : TypeId) (f : Nat × Nat), w.heap[k]? = some (.cells cs T f) → k ≠ D → T ≠ 67 → w'.heap[k]? = some (.cells cs T f)
/-- A table of the call's own (from base on) behind what was done since the world w0. -/
structure Tb (base : Nat) (w0 : World) (D : Nat) (size : Int) (P : List En) (w : World) : Prop where
  tab : ∃ A c, TabP base D size A c P w
  bel : Below base w0 w
  le : base ≤ w.heap.size
  ord : Ord P
  ok : ∀ x ∈ P, okP x = true
section
variable {base D : Nat} {size : Int} {P : List En} {w0 w w' : World}
theorem Tb.lt (h : Tb base w0 D size P w) : D < w.heap.size := by obtain ⟨A, c, ht⟩ := h.tab; exact ht.lt
theorem Tb.below (h : Tb base w0 D size P w) (hb : Below w.heap.size w w') : Tb base w0 D size P w' := by
  obtain ⟨A, c, ht⟩ := h.tab
  exact ⟨⟨A, c, ht.below hb⟩, h.bel.trans (hb.mono h.le), Nat.le_trans h.le hb.size, h.ord, h.ok⟩
theorem Tb.kp {A A' : Option Addr} {c : Nat} (ht : TabP base D size A c P w) (hm : Mv D A A' w w') : Kp D w w' := fun k cs T f hk hD hT => (hm.chg.block k (blkX hk) fun q => by
  rcases q with q | q
  · exact hD q
  · exact ht.rowNe hk hT q).trans hk
theorem Tb.moved {A A' : Option Addr} {c c' : Nat} {P' : List En} (h : Tb base w0 D size P w) (ht : TabP base D size A c P w) (ht' : TabP base D size A' c' P' w') (hm : Mv D A A' w w') (ho : Ord P') (hk : ∀ x ∈ P', okP x = true) : Tb base w0 D size P' w' :=
  ⟨⟨A', c', ht'⟩, Chg.belowAfter h.bel hm.chg h.le (fun k hk q => by
    rcases q with q | q
    · have := ht.ge; omega
    · have := (ht.rowLt k q).1; omega), Nat.le_trans h.le hm.chg.size, ho, hk⟩
theorem Tb.put (h : Tb base w0 D size P w) (y : Ef) (key : ByteArray) (r : Rp) (hkey : key.size ≤ 140737488355328) :
    Calls Tryz.prog 16 #[.pointer (some ⟨D, 0, none⟩), .agg #[.int .i64 y.1, .int .i64 y.2.1, .int .i64 y.2.2], .string key, .agg #[.int .i64 r.1, .int .i64 r.2.1, .string r.2.2]] w fun e w' => e = .returned (.int .i64 (putC size P ⟨y, key, r⟩)) ∧ Tb base w0 D size (putL size P ⟨y, key, r⟩) w' ∧ Kp D w w' ∧ w.heap.size ≤ w'.heap.size := by
  obtain ⟨A, c, ht⟩ := h.tab
  refine (put_any ht h.ord h.le y key r hkey).mono ?_
  rintro e w' ⟨A', c', rfl, ht', hm⟩
  exact ⟨rfl, h.moved ht ht' hm (ord_putL h.ord) (ok_putL h.ok), Tb.kp ht hm, hm.chg.size⟩
theorem Tb.take (h : Tb base w0 D size P w) (a b : ByteArray) (ha : a.size ≤ 140737488355328) (hb : b.size ≤ 140737488355328) :
    Calls Tryz.prog 8 #[.pointer (some ⟨D, 0, none⟩), .agg #[.string a, .string b]] w fun e w' => ∃ B m d, e = .returned (.tuple #[.slice B m d, .int .i64 (takeC (a, b))]) ∧ m = (takeO (a, b) P).length ∧ ES w' B m (takeO (a, b) P) ∧ (∀ k, rowOf B = some k → w.heap.size ≤ k) ∧ Tb base w0 D size (takeL (a, b) P) w' ∧ Kp D w w' ∧ w.heap.size ≤ w'.heap.size := by
  obtain ⟨A, c, ht⟩ := h.tab
  refine (take_any ht h.ok a b ha hb).mono ?_
  rintro e w' ⟨B, m, d, rfl, hm, hE, hB, ht', hv⟩
  exact ⟨B, m, d, rfl, hm, hE, hB, h.moved ht ht' hv (ord_takeL h.ord) (ok_takeL h.ok), Tb.kp ht hv, hv.chg.size⟩
theorem Tb.all (h : Tb base w0 D size P w) :
    Calls Tryz.prog 13 #[.pointer (some ⟨D, 0, none⟩)] w fun e w' => ∃ B m d, e = .returned (.slice B m d) ∧ m = P.length ∧ ES w' B m (P.map En.e) ∧ (∀ g, rowOf B = some g → w.heap.size ≤ g ∧ ∃ cs, w'.heap[g]? = some (.cells cs 39 (0, 0))) ∧ Tb base w0 D size P w' ∧ Below w.heap.size w w' := by
  obtain ⟨A, c, ht⟩ := h.tab
  refine (all_any ht).mono ?_
  rintro e w' ⟨B, m, d, rfl, hm, hE, hB, hb⟩
  exact ⟨B, m, d, rfl, hm, hE, hB, h.below hb, hb⟩
theorem Tb.copy (h : Tb base w0 D size P w) :
    Calls Tryz.prog 7 #[.pointer (some ⟨D, 0, none⟩)] w fun e w' => ∃ D', e = .returned (.pointer (some ⟨D', 0, none⟩)) ∧ Tb w.heap.size w D' size P w' ∧ Tb base w0 D size P w' ∧ Below w.heap.size w w' := by
  obtain ⟨A, c, ht⟩ := h.tab
  refine (copy_any ht).mono ?_
  rintro e w' ⟨D', A', c', rfl, ht', hb⟩
  exact ⟨D', rfl, ⟨⟨A', c', ht'⟩, hb, hb.size, h.ord, h.ok⟩, h.below hb, hb⟩
theorem Tb.get (h : Tb base w0 D size P w) (y : Ef) : Calls Tryz.prog 22 #[.pointer (some ⟨D, 0, none⟩), .agg #[.int .i64 y.1, .int .i64 y.2.1, .int .i64 y.2.2]] w fun e w' => e = .returned (.tuple #[.agg #[.int .i64 (getR P y).1, .int .i64 (getR P y).2.1, .string (getR P y).2.2], .bool (hasB P y)]) ∧ Tb base w0 D size P w' ∧ Below w.heap.size w w' := by
  obtain ⟨A, c, ht⟩ := h.tab
  refine (Get_any ht h.ord y).mono ?_
  rintro e w' ⟨rfl, hb⟩
  exact ⟨rfl, h.below hb, hb⟩
theorem Tb.len (h : Tb base w0 D size P w) : Calls Tryz.prog 17 #[.pointer (some ⟨D, 0, none⟩)] w fun e w' => e = .returned (.int .i64 (P.length : Int)) ∧ w' = w := by
  obtain ⟨A, c, ht⟩ := h.tab
  exact len_any ht
theorem Tb.room (h : Tb base w0 D size P w) (h0 : 0 ≤ size) : Calls Tryz.prog 18 #[.pointer (some ⟨D, 0, none⟩)] w fun e w' => e = .returned (.int .i64 (size - P.length)) ∧ Tb base w0 D size P w' ∧ Below w.heap.size w w' := by
  obtain ⟨A, c, ht⟩ := h.tab
  refine (room_any ht h0).mono ?_
  rintro e w' ⟨rfl, hb⟩
  exact ⟨rfl, h.below hb, hb⟩
end
end Go.Proofs.YtkdfhackpmdgfaaGreatDoor
