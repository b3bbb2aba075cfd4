/- The row of the entries while some are being left out. -/
import Derived.Test.YtkdfhackpmdgfaaGreatDoorIdx
import Derived.Test.YtkdfhackpmdgfaaGreatDoorAll
namespace Go.Proofs.YtkdfhackpmdgfaaGreatDoor
open Go.RowKit Go.Shelf
set_option linter.unusedSimpArgs false
set_option linter.unusedVariables false
set_option linter.unusedSectionVars false
set_option maxRecDepth 10000
attribute [local go_sem ↓] hideClear
attribute [-go_sem] sliced
theorem set7_list (L : List Value) (o : Nat) (x : En) (h : o + 7 ≤ L.length) : sets L o (encP x) = L.take o ++ encP x ++ L.drop (o + 7) := sets_list (encP x) L o h
/-- The row of the entries while some are being left out: the first i are those that stay of the first j; the others stand where they stood. -/
structure Part (a b : ByteArray) (g c : Nat) (l : List En) (i j : Nat) (cur : Array Value) (W : World) : Prop where
  blk : W.heap[g]? = some (.cells cur 67 (0, 0))
  size : cur.size = c * 7
  cap : l.length ≤ c
  len : ((l.take j).filter fun x => !inG (a, b) x.k).length = i
  lo : cur.toList.take (i * 7) = flat encP ((l.take j).filter fun x => !inG (a, b) x.k)
  hi : (cur.toList.drop (j * 7)).take ((l.length - j) * 7) = flat encP (l.drop j)
theorem Part.keep {a b : ByteArray} {g c i j : Nat} {l : List En} {cur : Array Value} {W W' : World} (h : Part a b g c l i j cur W) (hb : W'.heap[g]? = W.heap[g]?) : Part a b g c l i j cur W' := ⟨hb.trans h.blk, h.size, h.cap, h.len, h.lo, h.hi⟩
theorem Part.at_ {a b : ByteArray} {g c i j : Nat} {l : List En} {cur : Array Value} {W : World} (h : Part a b g c l i j cur W) {x : En} (hx : l[j]? = some x) : ∀ (t : Nat) (u : Value), (encP x)[t]? = some u → W.cell? ⟨g, j * 7 + t, none⟩ = some u := by
  intro t u hu
  have ht : t < 7 := by have := (List.getElem?_eq_some_iff.1 hu).1; rwa [encP_len] at this
  have hj : j < l.length := (List.getElem?_eq_some_iff.1 hx).1
  have h1 : (flat encP (l.drop j))[0 * 7 + t]? = (encP x)[t]? := flat_get encP_len (l.drop j) 0 x t (by rw [List.getElem?_drop]; exact hx) ht
  rw [Nat.zero_mul, Nat.zero_add, hu, ← h.hi, List.getElem?_take] at h1
  split at h1
  · rw [List.getElem?_drop, Array.getElem?_toList] at h1
    rw [blkC h.blk]; exact h1
  · cases h1
theorem filt_yes {a b : ByteArray} {l : List En} {j : Nat} {x : En} (hx : l[j]? = some x) (hin : inG (a, b) x.k = true) : (l.take (j + 1)).filter (fun x => !inG (a, b) x.k) = (l.take j).filter (fun x => !inG (a, b) x.k) ∧ (l.take (j + 1)).filter (fun x => inG (a, b) x.k) = (l.take j).filter (fun x => inG (a, b) x.k) ++ [x] := by
  rw [List.take_add_one, hx, List.filter_append, List.filter_append]
  simp [hin]
theorem filt_no {a b : ByteArray} {l : List En} {j : Nat} {x : En} (hx : l[j]? = some x) (hin : inG (a, b) x.k = false) : (l.take (j + 1)).filter (fun x => !inG (a, b) x.k) = (l.take j).filter (fun x => !inG (a, b) x.k) ++ [x] ∧ (l.take (j + 1)).filter (fun x => inG (a, b) x.k) = (l.take j).filter (fun x => inG (a, b) x.k) := by
  rw [List.take_add_one, hx, List.filter_append, List.filter_append]
  simp [hin]
theorem hi_next {l : List En} {j : Nat} {cur : Array Value} (hj : j < l.length) (h : (cur.toList.drop (j * 7)).take ((l.length - j) * 7) = flat encP (l.drop j)) : (cur.toList.drop ((j + 1) * 7)).take ((l.length - (j + 1)) * 7) = flat encP (l.drop (j + 1)) := by
  have h1 := congrArg (List.drop 7) h
  rw [List.drop_take, List.drop_drop] at h1
  have e1 : (l.length - j) * 7 - 7 = (l.length - (j + 1)) * 7 := by omega
  have e2 : j * 7 + 7 = (j + 1) * 7 := by omega
  rw [e1, e2] at h1
  rw [h1]
  have := (flat_cut (enc := encP) (k := 7) encP_len (l.drop j) 1 (by simp; omega)).2
  rw [Nat.one_mul] at this
  rw [this, List.drop_drop]
theorem Part.skip {a b : ByteArray} {g c i j : Nat} {l : List En} {cur : Array Value} {W : World} (h : Part a b g c l i j cur W) {x : En} (hx : l[j]? = some x) (hin : inG (a, b) x.k = true) : Part a b g c l i (j + 1) cur W := by
  have hj : j < l.length := (List.getElem?_eq_some_iff.1 hx).1
  exact ⟨h.blk, h.size, h.cap, by rw [(filt_yes hx hin).1]; exact h.len, by rw [(filt_yes hx hin).1]; exact h.lo, hi_next hj h.hi⟩
theorem Part.put {a b : ByteArray} {g c i j : Nat} {l : List En} {cur : Array Value} {W : World} (h : Part a b g c l i j cur W) {x : En} (hx : l[j]? = some x) (hin : inG (a, b) x.k = false) (hij : i ≤ j) :
    ∃ cur', Part a b g c l (i + 1) (j + 1) cur' ((((((((W).setCell ⟨g, i * 7, none⟩ (.int .i64 x.r.1)).setCell ⟨g, i * 7 + 1, none⟩ (.int .i64 x.r.2.1)).setCell ⟨g, i * 7 + 2, none⟩ (.string x.r.2.2)).setCell ⟨g, i * 7 + 3, none⟩ (.int .i64 x.e.1)).setCell ⟨g, i * 7 + 4, none⟩ (.int .i64 x.e.2.1)).setCell ⟨g, i * 7 + 5, none⟩ (.int .i64 x.e.2.2)).setCell ⟨g, i * 7 + 6, none⟩ (.string x.k)) := by
  have hj : j < l.length := (List.getElem?_eq_some_iff.1 hx).1
  have hcap := h.cap
  have hsz := h.size
  have hlen : cur.toList.length = c * 7 := by rw [Array.length_toList (xs := cur)]; exact hsz
  have hcl : ∀ (W : World) (C : Array Value), W.heap[g]? = some (.cells C 67 (0, 0)) → ∀ o v, (W.setCell ⟨g, o, none⟩ v).heap[g]? = some (.cells (C.setIfInBounds o v) 67 (0, 0)) := fun W C hC o v => hpSet hC
  have hblk := hcl _ _ (hcl _ _ (hcl _ _ (hcl _ _ (hcl _ _ (hcl _ _ (hcl _ _ h.blk (i * 7) (.int .i64 x.r.1)) (i * 7 + 1) (.int .i64 x.r.2.1)) (i * 7 + 2) (.string x.r.2.2)) (i * 7 + 3) (.int .i64 x.e.1)) (i * 7 + 4) (.int .i64 x.e.2.1)) (i * 7 + 5) (.int .i64 x.e.2.2)) (i * 7 + 6) (.string x.k)
  refine ⟨_, ⟨hblk, by simpa using hsz, hcap, ?_, ?_, ?_⟩⟩
  · rw [(filt_no hx hin).1, List.length_append, h.len]; rfl
  · have hs := set7_list cur.toList (i * 7) x (by omega)
    have hl : ((((((((cur).setIfInBounds (i * 7) (.int .i64 x.r.1)).setIfInBounds (i * 7 + 1) (.int .i64 x.r.2.1)).setIfInBounds (i * 7 + 2) (.string x.r.2.2)).setIfInBounds (i * 7 + 3) (.int .i64 x.e.1)).setIfInBounds (i * 7 + 4) (.int .i64 x.e.2.1)).setIfInBounds (i * 7 + 5) (.int .i64 x.e.2.2)).setIfInBounds (i * 7 + 6) (.string x.k)).toList = sets cur.toList (i * 7) (encP x) := by simp [sets, encP]
    rw [hl, hs, (filt_no hx hin).1, flat_app]
    have hlt : (cur.toList.take (i * 7)).length = i * 7 := by rw [List.length_take]; omega
    rw [List.append_assoc, List.take_append, hlt, List.take_of_length_le (by omega), h.lo, show (i + 1) * 7 - i * 7 = 7 from by omega]
    simp [flat, encP]
  · have hs := set7_list cur.toList (i * 7) x (by omega)
    have hl : ((((((((cur).setIfInBounds (i * 7) (.int .i64 x.r.1)).setIfInBounds (i * 7 + 1) (.int .i64 x.r.2.1)).setIfInBounds (i * 7 + 2) (.string x.r.2.2)).setIfInBounds (i * 7 + 3) (.int .i64 x.e.1)).setIfInBounds (i * 7 + 4) (.int .i64 x.e.2.1)).setIfInBounds (i * 7 + 5) (.int .i64 x.e.2.2)).setIfInBounds (i * 7 + 6) (.string x.k)).toList = sets cur.toList (i * 7) (encP x) := by simp [sets, encP]
    have hlt : (cur.toList.take (i * 7) ++ encP x).length = i * 7 + 7 := by rw [List.length_append, List.length_take, encP_len]; omega
    have hd : (cur.toList.take (i * 7) ++ encP x ++ cur.toList.drop (i * 7 + 7)).drop ((j + 1) * 7) = cur.toList.drop ((j + 1) * 7) := by
      rw [List.drop_append, hlt, List.drop_eq_nil_of_le (by omega), List.nil_append, List.drop_drop, show i * 7 + 7 + ((j + 1) * 7 - (i * 7 + 7)) = (j + 1) * 7 from by omega]
    rw [hl, hs, hd]
    exact hi_next hj h.hi
theorem DelS.set {w W : World} {A : Option Addr} {R O : Nat} {a b : ByteArray} {L : List Ef} {g o : Nat} {v : Value} {cur : Array Value} (h : DelS w A R O a b L W) (hA : rowOf A = some g) (hg : W.heap[g]? = some (.cells cur 67 (0, 0))) : DelS w A R O a b L (W.setCell ⟨g, o, none⟩ v) := by
  obtain ⟨h1, h2, B, m, d, h3⟩ := h
  have hR : R ≠ g := fun q => by rw [q, hg] at h2; injection h2 with h2; injection h2 with _ h2; exact absurd h2 (by decide)
  refine ⟨h1.setCell (fun _ => hA) _, (hpFar hR).trans h2, B, m, d, h3.keep (by simp [World.setCell]) fun k hk q => hpFar ?_⟩
  intro hkg
  have hkg' : k = g := hkg
  subst hkg'
  rcases q with q | q
  · have := h3.blk
    rw [← q, hg] at this; injection this with this; injection this with _ this; exact absurd this (by decide)
  · exact h3.rowNe hg (by decide) q
end Go.Proofs.YtkdfhackpmdgfaaGreatDoor
