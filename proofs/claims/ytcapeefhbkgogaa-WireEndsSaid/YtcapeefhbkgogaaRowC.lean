/- A row of structs of the call's own: copies within it and into it, a new element put at a place: over any program. No program in sight. -/
import Derived.Test.YtcapeefhbkgogaaSl
import Derived.Laws.CopyRow
import Derived.Lib.AppendZerosOnto
import Derived.Lib.Overlaps
namespace Go.Proofs.Ytcapeefhbkgogaa
open Go.RowKit
set_option linter.unusedSimpArgs false
set_option linter.unusedVariables false
def copySem (ts : Array TypeId) (ty : TypeId) (args : Array Value) : Sem Value := Builtin.copy_ ts ty args
theorem hideCopy (ts : Array TypeId) (ty : TypeId) (args : Array Value) : Builtin.copy_ ts ty args = copySem ts ty args := rfl
section
variable {P : Program} {t ty e : TypeId} {k bytes : Nat}
theorem copy_cells (hE : Elem P t e k bytes) {W : World} {g o dLen dCap sLen sCap : Nat} {a : Addr} {cur : Array Value} {T : TypeId} {cs : List Value} (hg : W.heap[g]? = some (.cells cur T (0, 0))) (hn : cs.length = Nat.min sLen dLen * k)
    (hsrc : ∀ j v, cs[j]? = some v → W.cell? (a.add j) = some v) (hfit : o + cs.length ≤ cur.size) (h1 : ∀ v ∈ cs, v.oneCell' = true) :
    (copySem #[t, t] ty #[.slice (some ⟨g, o, none⟩) dLen dCap, .slice (some a) sLen sCap]).run P W = .ok (goInt (Nat.min sLen dLen)) (W.setRow g (cur.toList.take o ++ cs ++ cur.toList.drop (o + cs.length)).toArray) := by
  obtain ⟨hu, ⟨i, z, hi, hz0, hz1, hz2, hzc⟩, hp⟩ := hE
  have hl := run_loadCells_list (P := P) W a cs hsrc
  have hst := run_storeCells_at P g o T cs 0 cur W hg (by simpa using hfit) h1
  simp only [Nat.add_zero] at hst
  show (Builtin.copy_ _ _ _).run P W = _
  rw [hn] at hl
  simp [Builtin.copy_, run_underlying hu, Builtin.lenOf, Builtin.firstCells, sizeOf, typeInfo, hi, hz1, hl, hst]
end
section
variable {α : Type} {enc : α → List Value} {k : Nat}
theorem SL.addCells {w : World} {b o n : Nat} {l : List α} (hk : ∀ x, (enc x).length = k) (hp : 0 < k) (h : SL enc k w (some ⟨b, o, none⟩) n l) : ∀ (j : Nat) (u : Value), (flat enc l)[j]? = some u → w.cell? ((⟨b, o, none⟩ : Addr).add j) = some u := by
  intro j u hu
  have hj := (List.getElem?_eq_some_iff.1 hu).1
  rw [flat_length hk, h.1] at hj
  have hn : 0 < n := by rcases Nat.eq_zero_or_pos n with q | q; (rw [q] at hj; omega); exact q
  obtain ⟨b', o', e, _, hc⟩ := h.2 hn
  injection e with e
  injection e with e1 e2
  subst e1 e2
  exact SL.flatCells hk hp h.1 hc j u hu
/-- What a row known whole holds. -/
theorem own_mk {w : World} {base g n c : Nat} {e : TypeId} {cur : Array Value} {xs : List Value} (hb : base ≤ g) (hg : w.heap[g]? = some (.cells cur e (0, 0))) (hn : n ≤ c) (hm : c ≤ maxLen) (hs : cur.size = c * k) (hl : xs.length = n * k) (ht : cur.toList.take (n * k) = xs) :
    w.ownsRow base e k (.slice (some ⟨g, 0, none⟩) n c) n xs := ⟨hl, .inr ⟨g, c, cur, rfl, hb, hg, hn, hm, hs, ht⟩⟩
theorem sliced_at (g o l h m s : Nat) (hm : m ≠ l) : sliced (some ⟨g, o, none⟩) l h m s = .slice (some ⟨g, o + l * s, none⟩) (h - l) (m - l) := by
  unfold sliced
  rw [if_neg hm]
  simp [Addr.add]
theorem sliced_at0 (g l h m s : Nat) (hm : m ≠ l) : sliced (some ⟨g, 0, none⟩) l h m s = .slice (some ⟨g, l * s, none⟩) (h - l) (m - l) := by
  rw [sliced_at g 0 l h m s hm, Nat.zero_add]
theorem sliced_low (A : Option Addr) (h m s : Nat) (hA : ∀ a, A = some a → a.spot = none) : sliced A 0 h m s = .slice A h m := by
  unfold sliced
  split
  · simp
  · cases A with
    | none => simp
    | some a =>
      have := hA a rfl
      obtain ⟨b, o, sp⟩ := a
      simp only at this
      subst this
      simp [Addr.add]
theorem list_in {α : Type} (a v b z : List α) (p q : Nat) (hp : a.length = p) (hq : v.length = q) : ((a ++ z).take p ++ v ++ (a ++ z).drop (p + q)) = a ++ v ++ z.drop q := by
  subst hp hq
  simp [List.drop_append]
/-- A cut in the midst. -/
theorem flat_cut (hk : ∀ x, (enc x).length = k) (l : List α) (i : Nat) (hi : i ≤ l.length) : (flat enc l).take (i * k) = flat enc (l.take i) ∧ (flat enc l).drop (i * k) = flat enc (l.drop i) := by
  have h : flat enc l = flat enc (l.take i) ++ flat enc (l.drop i) := by rw [← flat_app, List.take_append_drop]
  have hl : (flat enc (l.take i)).length = i * k := by rw [flat_length hk, List.length_take, Nat.min_eq_left hi]
  rw [h]
  exact ⟨by rw [← hl, List.take_left], by rw [← hl, List.drop_left]⟩
end
/-- The cells behind the two copies of an insertion: where there was room; in a new row. -/
theorem up_list {β : Type} (F1 F2 R v : List β) (p k q : Nat) (h1 : F1.length = p) (hv : v.length = k) (h2 : F2.length = q) (hk : k ≤ q) :
    ((F1 ++ F2 ++ R).take (p + k) ++ F2 ++ (F1 ++ F2 ++ R).drop (p + k + q)).take p ++ v ++ ((F1 ++ F2 ++ R).take (p + k) ++ F2 ++ (F1 ++ F2 ++ R).drop (p + k + q)).drop (p + k) = F1 ++ v ++ F2 ++ R.drop k := by
  have e1 : (F1 ++ F2 ++ R).take (p + k) = F1 ++ F2.take k := by
    rw [List.append_assoc, List.take_append, h1, List.take_of_length_le (by omega), Nat.add_sub_cancel_left, List.take_append_of_le_length (by omega)]
  have e2 : (F1 ++ F2 ++ R).drop (p + k + q) = R.drop k := by
    rw [List.drop_append, List.length_append, h1, h2, List.drop_eq_nil_of_le (by rw [List.length_append]; omega), List.nil_append]
    congr 1; omega
  have e3 : (F1 ++ F2.take k).length = p + k := by rw [List.length_append, List.length_take, h1, h2, Nat.min_eq_left hk]
  rw [e1, e2]
  have e4 : (F1 ++ F2.take k ++ F2 ++ R.drop k).take p = F1 := by
    rw [List.append_assoc, List.append_assoc, List.take_append_of_le_length (by omega), List.take_of_length_le (by omega)]
  have e5 : (F1 ++ F2.take k ++ F2 ++ R.drop k).drop (p + k) = F2 ++ R.drop k := by
    rw [List.append_assoc, List.drop_append_of_le_length (by omega), List.drop_eq_nil_of_le (by omega), List.nil_append]
  rw [e4, e5]
  simp [List.append_assoc]
theorem new_list {β : Type} (F1 F2 Z v : List β) (p k q : Nat) (h1 : F1.length = p) (hv : v.length = k) (h2 : F2.length = q) :
    ((F1 ++ Z).take p ++ v ++ (F1 ++ Z).drop (p + k)).take (p + k) ++ F2 ++ ((F1 ++ Z).take p ++ v ++ (F1 ++ Z).drop (p + k)).drop (p + k + q) = F1 ++ v ++ F2 ++ (Z.drop k).drop q := by
  have e1 : (F1 ++ Z).take p = F1 := by rw [List.take_append_of_le_length (by omega), List.take_of_length_le (by omega)]
  have e2 : (F1 ++ Z).drop (p + k) = Z.drop k := by rw [List.drop_append, h1, List.drop_eq_nil_of_le (by omega), List.nil_append]; congr 1; omega
  have e3 : (F1 ++ v).length = p + k := by rw [List.length_append]; omega
  rw [e1, e2, List.take_append_of_le_length (by omega), List.take_of_length_le (by omega), List.drop_append, e3, List.drop_eq_nil_of_le (by omega), List.nil_append]
  congr 2; omega
def clearSem (ts : Array TypeId) (ty : TypeId) (args : Array Value) : Sem Value := Builtin.clear_ ts ty args
theorem hideClear (ts : Array TypeId) (ty : TypeId) (args : Array Value) : Builtin.clear_ ts ty args = clearSem ts ty args := rfl
theorem clear_cells {P : Program} {t ty e : TypeId} {z : Value} {W : World} {g o n c k : Nat} {cur : Array Value} {T : TypeId} (ht : P.underlying t = some (.slice e)) (hv : ∀ w, (zeroValue e).run P w = .ok z w) (hk : z.cells.size = k) (h1 : ∀ u ∈ z.cells, u.oneCell' = true) (hn : 0 < n) (hk0 : 0 < k)
    (hg : W.heap[g]? = some (.cells cur T (0, 0))) (hfit : o + n * k ≤ cur.size) :
    ∃ Z : List Value, Z.length = n * k ∧ (clearSem #[t] ty #[.slice (some ⟨g, o, none⟩) n c]).run P W = .ok (.tuple #[]) (W.setRow g (cur.toList.take o ++ Z ++ cur.toList.drop (o + Z.length)).toArray) := by
  obtain ⟨n, rfl⟩ : ∃ m, n = m + 1 := ⟨n - 1, by omega⟩
  have hZl : (Builtin.zeroCells z.cells (n + 1)).toList.length = (n + 1) * k := by rw [Array.length_toList, size_zeroCells, hk]
  refine ⟨(Builtin.zeroCells z.cells (n + 1)).toList, hZl, ?_⟩
  have hst := run_storeCells_at P g o T (Builtin.zeroCells z.cells (n + 1)).toList 0 cur W hg (by rw [hZl]; omega) (fun v hv => by
    simp only [Builtin.zeroCells, Array.toList_map, List.mem_map] at hv
    obtain ⟨i, _, rfl⟩ := hv
    have hlt : i % z.cells.size < z.cells.size := Nat.mod_lt _ (by omega)
    rw [getElem!_pos z.cells _ hlt]
    exact h1 _ (Array.getElem_mem hlt))
  simp only [Nat.add_zero] at hst
  show (Builtin.clear_ _ _ _).run P W = _
  simp [Builtin.clear_, run_underlying ht, hv, hst]
end Go.Proofs.Ytcapeefhbkgogaa
