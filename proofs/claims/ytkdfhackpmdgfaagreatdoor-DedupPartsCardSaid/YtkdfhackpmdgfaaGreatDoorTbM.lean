/- A table and a map of the call's own beside it. -/
import Derived.Test.YtkdfhackpmdgfaaGreatDoorMp
import Derived.Test.YtkdfhackpmdgfaaGreatDoorTb
namespace Go.Proofs.YtkdfhackpmdgfaaGreatDoor
open Go.RowKit Go.Shelf
open Go.Maps (Keyed)
set_option linter.unusedSimpArgs false
set_option linter.unusedVariables false
set_option linter.unusedSectionVars false
set_option maxRecDepth 10000
theorem MapOf.blk {P : Program} {k : TypeId} {w : World} {b n : Nat} {f : Value → Option Value} (h : MapOf P k w b n f) : ∃ es cl, w.heap[b]? = some (.map es cl) := by
  obtain ⟨D, ⟨es, cl, hb, _⟩, _⟩ := h
  exact ⟨es, cl, hb⟩
/-- Maps stay. -/
def Km (w w' : World) : Prop := ∀ (k : Nat) (es : Array MapEntry) (cl : Nat), w.heap[k]? = some (.map es cl) → w'.heap[k]? = some (.map es cl)
theorem MapOf.km {P : Program} {k : TypeId} {w w' : World} {b n : Nat} {f : Value → Option Value} (h : MapOf P k w b n f) (hk : Km w w') : MapOf P k w' b n f := by
  obtain ⟨es, cl, hb⟩ := h.blk
  exact h.keep ((hk b es cl hb).trans hb.symm)
section
variable {base D : Nat} {size : Int} {P : List En} {w0 w w' : World}
theorem TabP.rowMap {A : Option Addr} {c : Nat} (h : TabP base D size A c P w) {g : Nat} {es : Array MapEntry} {cl : Nat} (hg : w.heap[g]? = some (.map es cl)) : rowOf A ≠ some g := by
  intro q
  rcases h.own.2 with ⟨e, _⟩ | ⟨g', cap, cur, e, _, hh, _⟩
  · injection e with e; rw [e] at q; cases q
  · injection e with e
    rw [e] at q
    injection q with q
    subst q
    rw [hg] at hh
    cases hh
theorem TabP.blkMap {A : Option Addr} {c : Nat} (h : TabP base D size A c P w) {g : Nat} {es : Array MapEntry} {cl : Nat} (hg : w.heap[g]? = some (.map es cl)) : g ≠ D := by
  rintro rfl
  have := h.blk
  rw [hg] at this
  cases this
theorem Tb.km {A A' : Option Addr} {c : Nat} (ht : TabP base D size A c P w) (hm : Mv D A A' w w') : Km w w' := fun k es cl hk => (hm.chg.block k (Array.getElem?_eq_some_iff.1 hk).1 fun q => by
  rcases q with q | q
  · exact ht.blkMap hk q
  · exact ht.rowMap hk q).trans hk
theorem km_below (hb : Below w.heap.size w w') : Km w w' := fun k es cl hk => (hb.block k (Array.getElem?_eq_some_iff.1 hk).1).trans hk
theorem Tb.putM (h : Tb base w0 D size P w) (y : Ef) (key : ByteArray) (r : Rp) (hkey : key.size ≤ 140737488355328) :
    Calls Tryz.prog 16 #[.pointer (some ⟨D, 0, none⟩), .agg #[.int .i64 y.1, .int .i64 y.2.1, .int .i64 y.2.2], .string key, .agg #[.int .i64 r.1, .int .i64 r.2.1, .string r.2.2]] w fun e w' => e = .returned (.int .i64 (putC size P ⟨y, key, r⟩)) ∧ Tb base w0 D size (putL size P ⟨y, key, r⟩) w' ∧ Kp D w w' ∧ Km w w' ∧ w.heap.size ≤ w'.heap.size := by
  obtain ⟨A, c, ht⟩ := h.tab
  refine (put_any ht h.ord h.le y key r hkey).mono ?_
  rintro e w' ⟨A', c', rfl, ht', hm⟩
  exact ⟨rfl, h.moved ht ht' hm (ord_putL h.ord) (ok_putL h.ok), Tb.kp ht hm, Tb.km ht hm, hm.chg.size⟩
theorem Tb.takeM (h : Tb base w0 D size P w) (a b : ByteArray) (ha : a.size ≤ 140737488355328) (hb : b.size ≤ 140737488355328) :
    Calls Tryz.prog 8 #[.pointer (some ⟨D, 0, none⟩), .agg #[.string a, .string b]] w fun e w' => ∃ B m d, e = .returned (.tuple #[.slice B m d, .int .i64 (takeC (a, b))]) ∧ m = (takeO (a, b) P).length ∧ ES w' B m (takeO (a, b) P) ∧ (∀ k, rowOf B = some k → w.heap.size ≤ k) ∧ Tb base w0 D size (takeL (a, b) P) w' ∧ Kp D w w' ∧ Km w w' ∧ w.heap.size ≤ w'.heap.size := by
  obtain ⟨A, c, ht⟩ := h.tab
  refine (take_any ht h.ok a b ha hb).mono ?_
  rintro e w' ⟨B, m, d, rfl, hm, hE, hB, ht', hv⟩
  exact ⟨B, m, d, rfl, hm, hE, hB, h.moved ht ht' hv (ord_takeL h.ord) (ok_takeL h.ok), Tb.kp ht hv, Tb.km ht hv, hv.chg.size⟩
/-- Where a map of the call's own turned. -/
theorem Tb.turned {B : Nat} {es : Array MapEntry} {cl : Nat} (h : Tb base w0 D size P w) (hB : w.heap[B]? = some (.map es cl)) (hb : base ≤ B) (ht : w.mapTurned w' B) : Tb base w0 D size P w' := by
  obtain ⟨A, c, hT⟩ := h.tab
  have hc := turned_chg ht
  refine ⟨⟨A, c, hT.chg hc fun k q e => ?_⟩, Chg.belowAfter h.bel hc h.le (fun k hk q => by omega), Nat.le_trans h.le hc.size, h.ord, h.ok⟩
  subst e
  rcases q with q | q
  · exact hT.blkMap hB q
  · exact hT.rowMap hB q
end
end Go.Proofs.YtkdfhackpmdgfaaGreatDoor
