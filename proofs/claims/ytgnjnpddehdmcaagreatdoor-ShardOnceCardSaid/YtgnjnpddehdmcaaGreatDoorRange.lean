/- A loop over an iterator that counts in a variable of its own (a captured box): the law of such a loop, where its body never leaves early. No program in sight. -/
import Derived.Test.YtgnjnpddehdmcaaGreatDoorHasG
import Derived.Test.YtgnjnpddehdmcaaGreatDoorChgW
import Derived.Maps.OwnSet
import Derived.Sort.KeysCollected
import Derived.Lib.SlKeysI
import Derived.StringKeys
import Derived.Test.YtgnjnpddehdmcaaGreatDoorCChk
import Derived.Deep.RegionHeld3
import Derived.Deep.QuietTactic
import Derived.BigQuiet
import Derived.Laws.CopyRow
import Derived.Lib.AppendZerosOnto
import Derived.Lib.Overlaps
import Derived.Test.YtgnjnpddehdmcaaGreatDoorHas
import Derived.Test.YtgnjnpddehdmcaaGreatDoorEf
import Derived.Shelf.LaysM
import Derived.Shelf.SlGeneric
import Derived.Shelf.SlIter.Nil
import Derived.Shelf.SlIterI.Nil
import Derived.Shelf.SortM.Plain
import Derived.Shelf.SortM.SortNone
import Derived.Ground.GgzProg
import Derived.Ground.SlgmProg
import Derived.Shelf.SlMaps.Clone
import Derived.Ground.SlmcProg
import Derived.Shelf.SlSorted.IsSorted
import Derived.Shelf.SlSortCmp.NoneTotal
import Derived.Ground.SlsfProg
import Derived.Ground.SlsoProg
import Derived.Test.YtgnjnpddehdmcaaGreatDoorProg
import Derived.RangeFuncNested
import Derived.RangeFuncBound
import Derived.RangeFuncCalls
import Derived.RangeFuncLeaves
import Derived.RangeFuncBox
namespace Go.Proofs.YtgnjnpddehdmcaaGreatDoor
open Go Go.RowKit
open Go.Maps (Keyed)
set_option linter.unusedSimpArgs false
set_option linter.unusedVariables false
set_option linter.unusedSectionVars false
def heldE (v : Value) : Option (DataW Value × List MemPlace) := some (.held v, [])
def MapOf (P : Program) (k : TypeId) (w : World) (b n : Nat) (f : Value → Option Value) : Prop :=
 ∃ D, w.ownsMap P k heldE b n D ∧ Maps.size D = n ∧ ∀ key kl, keyOf P k key = some kl → Maps.has D kl = (f key).isSome ∧ ∀ v, f key = some v → ∀ z, D.atKey kl z = .held v
section
variable {P : Program} {k : TypeId} {w w' : World} {b n : Nat} {f : Value → Option Value}
theorem MapOf.made (w : World) (P : Program) (k : TypeId) : MapOf P k (w.alloc (.map #[] 0)) w.heap.size 0 (fun _ => none) :=
 ⟨_, World.ownsMap_made w P k heldE, rfl, fun key kl _ => ⟨rfl, fun v h => by cases h⟩⟩
theorem MapOf.lt (h : MapOf P k w b n f) : b < w.heap.size := by obtain ⟨D, h1, _⟩ := h; exact h1.lt
theorem MapOf.keep (h : MapOf P k w b n f) (hk : w'.heap[b]? = w.heap[b]?) : MapOf P k w' b n f := by
 obtain ⟨D, ⟨es, clock, hb, r⟩, r2⟩ := h
 exact ⟨D, ⟨es, clock, hk.trans hb, r⟩, r2⟩
theorem MapOf.below (h : MapOf P k w b n f) (hb : Below w.heap.size w w') : MapOf P k w' b n f := h.keep (hb.block b h.lt)
theorem MapOf.congr {f' : Value → Option Value} (h : MapOf P k w b n f) (e : ∀ key kl, keyOf P k key = some kl → f' key = f key) : MapOf P k w b n f' := by
 obtain ⟨D, h1, h2, h3⟩ := h
 exact ⟨D, h1, h2, fun key kl hk => by rw [e key kl hk]; exact h3 key kl hk⟩
theorem MapOf.look_ok {t e : TypeId} (h : MapOf P k w b n f) (K : Keyed P k) (ht : P.underlying t = some (.map k e)) {z : Value} (hz : (zeroValue e).run P w = .ok z w) {key : Value} {kl : Lit} (hkey : keyOf P k key = some kl) :
  ∃ v, (Instr.lookup t (.map (some b)) key true).run P w = .ok (.tuple #[v, .bool (f key).isSome]) w ∧ (∀ x, f key = some x → v = x) ∧ (f key = none → v = z) := by
 obtain ⟨D, h1, h2, h3⟩ := h
 obtain ⟨v, ps, hr, hv⟩ := h1.look_ok K ht hz (zd := .held z) (zp := []) rfl hkey
 obtain ⟨a, c⟩ := h3 key kl hkey
 refine ⟨v, by rw [← a]; exact hr, fun x hx => ?_, fun hx => ?_⟩
 ·
  rw [c x hx] at hv
  simp only [heldE, Option.some.injEq, Prod.mk.injEq, DataW.held.injEq] at hv
  exact hv.1
 ·
  rw [Maps.atKey_of_not_has (by rw [a, hx]; rfl)] at hv
  simp only [heldE, Option.some.injEq, Prod.mk.injEq, DataW.held.injEq] at hv
  exact hv.1
theorem MapOf.look {t e : TypeId} (h : MapOf P k w b n f) (K : Keyed P k) (ht : P.underlying t = some (.map k e)) {z : Value} (hz : (zeroValue e).run P w = .ok z w) {key : Value} {kl : Lit} (hkey : keyOf P k key = some kl) {x : Value} (hx : f key = some x) :
  (Instr.lookup t (.map (some b)) key false).run P w = .ok x w := by
 obtain ⟨D, h1, h2, h3⟩ := h
 obtain ⟨v, ps, hr, hv⟩ := h1.lookup K ht hz (zd := .held z) (zp := []) rfl hkey
 obtain ⟨a, c⟩ := h3 key kl hkey
 rw [c x hx] at hv
 simp only [heldE, Option.some.injEq, Prod.mk.injEq, DataW.held.injEq] at hv
 rw [hr, hv.1]
theorem MapOf.len {t e : TypeId} (h : MapOf P k w b n f) (ht : P.underlying t = some (.map k e)) (ty : TypeId) : (Builtin.len_ #[t] ty #[.map (some b)]).run P w = .ok (.int .i64 (n : Int)) w := by
 obtain ⟨D, h1, h2, h3⟩ := h
 rw [h1.len ht ty, h2]
theorem MapOf.store {t e : TypeId} (h : MapOf P k w b n f) (K : Keyed P k) (ht : P.underlying t = some (.map k e)) (hn : n < maxLen) {key val : Value} {kl : Lit} (hkey : keyOf P k key = some kl) (hnew : f key = none)
  {f' : Value → Option Value} (hf1 : f' key = some val) (hf2 : ∀ x, x ≠ key → f' x = f x) :
  ∃ w', (Instr.mapUpdate t (.map (some b)) key val).run P w = .ok () w' ∧ MapOf P k w' b (n + 1) f' ∧ w.mapTurned w' b := by
 obtain ⟨D, h1, h2, h3⟩ := h
 obtain ⟨w', hr, ho, hm⟩ := h1.store K ht hn (val := val) (d := .held val) (ps := []) hkey rfl
 refine ⟨w', hr, ⟨_, ho, ?_, fun key' kl' hk' => ?_⟩, hm⟩
 ·
  rw [Maps.size_put (h1.tidy K), (h3 key kl hkey).1, hnew, h2]; rfl
 ·
  by_cases e : key' = key
  ·
   subst e
   obtain rfl : kl' = kl := Option.some.inj (hk'.symm.trans hkey)
   rw [hf1]
   exact ⟨Maps.has_put_same h1.isMap (K.key hkey) _, fun v hv z => by cases hv; exact Maps.atKey_put_same h1.isMap (K.key hkey) _ z⟩
  ·
   have hne : kl' ≠ kl := fun q => e (K.inj (q ▸ hk') hkey)
   rw [hf2 key' e]
   obtain ⟨a, c⟩ := h3 key' kl' hk'
   exact ⟨by rw [Maps.has_put_other hne, a], fun v hv z => by rw [Maps.atKey_put_other hne]; exact c v hv z⟩
theorem turned_chg (h : w.mapTurned w' b) : Chg (fun k => k = b) w w' := Chg.of_grown h.grown fun k e => (Option.some.inj e).symm
end
end Go.Proofs.YtgnjnpddehdmcaaGreatDoor

namespace Go.Proofs.YtgnjnpddehdmcaaGreatDoor
set_option linter.unusedSimpArgs false
set_option linter.unusedVariables false
set_option linter.unusedSectionVars false
section
variable {κ : Type} [DecidableEq κ] {β : Type} (lt : κ → κ → Bool)
structure LtOK : Prop where
 irr : ∀ a, lt a a = false
 trn : ∀ {a b c}, lt a b = true → lt b c = true → lt a c = true
 tot : ∀ {a b}, lt a b = false → a ≠ b → lt b a = true
def AOrd (l : List (κ × β)) : Prop := l.Pairwise fun x y => lt x.1 y.1 = true
def lookA (l : List (κ × β)) (k : κ) : Option β := (l.find? fun x => decide (x.1 = k)).map (·.2)
def hasA (l : List (κ × β)) (k : κ) : Bool := (lookA l k).isSome
def insA (l : List (κ × β)) (k : κ) (v : β) : List (κ × β) := l.takeWhile (fun x => lt x.1 k) ++ (k, v) :: l.dropWhile (fun x => lt x.1 k)
def updA (l : List (κ × β)) (k : κ) (v : β) : List (κ × β) := l.map fun x => if x.1 = k then (k, v) else x
def putA (l : List (κ × β)) (k : κ) (v : β) : List (κ × β) := if hasA l k then updA l k v else insA lt l k v
def delA (l : List (κ × β)) (k : κ) : List (κ × β) := l.filter fun x => !decide (x.1 = k)
end
section
variable {κ : Type} [DecidableEq κ] {β : Type} {lt : κ → κ → Bool}
theorem lookA_cons (x : κ × β) (l : List (κ × β)) (k : κ) : lookA (x :: l) k = if x.1 = k then some x.2 else lookA l k := by
 unfold lookA
 rw [List.find?_cons]
 by_cases h : x.1 = k
 ·
  rw [if_pos h]; simp [h]
 ·
  rw [if_neg h]; simp [h]
theorem lookA_app (a b : List (κ × β)) (k : κ) : lookA (a ++ b) k = (lookA a k).or (lookA b k) := by
 unfold lookA
 rw [List.find?_append]
 cases a.find? (fun x => decide (x.1 = k)) <;> simp
theorem lookA_none {l : List (κ × β)} {k : κ} : lookA l k = none ↔ ∀ x ∈ l, x.1 ≠ k := by
 unfold lookA
 rw [Option.map_eq_none_iff, List.find?_eq_none]
 simp
theorem hasA_false {l : List (κ × β)} {k : κ} : hasA l k = false ↔ lookA l k = none := by unfold hasA; cases lookA l k <;> simp
theorem hasA_iff {l : List (κ × β)} {k : κ} : hasA l k = true ↔ ∃ x ∈ l, x.1 = k := by
 unfold hasA
 rw [Option.isSome_iff_ne_none, Ne, lookA_none]
 simp
theorem lookA_mem {l : List (κ × β)} {k : κ} {v : β} (h : lookA l k = some v) : (k, v) ∈ l := by
 unfold lookA at h
 obtain ⟨x, h1, h2⟩ := Option.map_eq_some_iff.1 h
 have := List.find?_some h1
 have e : x.1 = k := by simpa using this
 have := List.mem_of_find?_eq_some h1
 obtain ⟨a, b⟩ := x
 simp only at e h2
 rw [← e, ← h2]; exact this
theorem AOrd.nodup (K : LtOK lt) {l : List (κ × β)} (h : AOrd lt l) : (l.map (·.1)).Nodup := by
 unfold AOrd at h
 rw [List.Nodup, List.pairwise_map]
 exact h.imp fun {a b} q e => by rw [e, K.irr] at q; cases q
theorem AOrd.look (K : LtOK lt) {l : List (κ × β)} (h : AOrd lt l) {k : κ} {v : β} (hm : (k, v) ∈ l) : lookA l k = some v := by
 induction l with
 | nil => cases hm
 | cons a l ih =>
  have h' := List.pairwise_cons.1 h
  rw [lookA_cons]
  rcases List.mem_cons.1 hm with rfl | hm
  ·
   rw [if_pos rfl]
  ·
   rw [if_neg, ih h'.2 hm]
   intro e
   have := h'.1 _ hm
   rw [e, K.irr] at this; cases this
theorem AOrd.ext (K : LtOK lt) : ∀ {l m : List (κ × β)}, AOrd lt l → AOrd lt m → (∀ k, lookA l k = lookA m k) → l = m
 | [], [], _, _, _ => rfl
 | [], y :: m, _, _, h => by have := h y.1; rw [lookA_cons, if_pos rfl] at this; cases this
 | x :: l, [], _, _, h => by have := h x.1; rw [lookA_cons, if_pos rfl] at this; cases this
 | x :: l, y :: m, hl, hm, h => by
  have hl' := List.pairwise_cons.1 hl
  have hm' := List.pairwise_cons.1 hm
  have h1 := h x.1
  rw [lookA_cons, if_pos rfl] at h1
  have h2 := h y.1
  rw [lookA_cons, lookA_cons, if_pos rfl] at h2
  have e : x = y := by
   rw [lookA_cons] at h1
   by_cases e : y.1 = x.1
   ·
    rw [if_pos e] at h1
    exact Prod.ext e.symm (by simpa using h1)
   ·
    rw [if_neg e] at h1
    rw [if_neg (fun q => e q.symm)] at h2
    have a := hm'.1 _ (lookA_mem h1.symm)
    have b := hl'.1 _ (lookA_mem h2)
    have := K.trn a b
    rw [K.irr] at this; cases this
  subst e
  congr 1
  refine AOrd.ext K hl'.2 hm'.2 fun k => ?_
  have h3 := h k
  rw [lookA_cons, lookA_cons] at h3
  by_cases e : x.1 = k
  ·
   subst e
   have n1 : lookA l x.1 = none := lookA_none.2 fun z hz q => by
    have := hl'.1 z hz
    rw [q, K.irr] at this; cases this
   have n2 : lookA m x.1 = none := lookA_none.2 fun z hz q => by
    have := hm'.1 z hz
    rw [q, K.irr] at this; cases this
   rw [n1, n2]
  ·
   rwa [if_neg e, if_neg e] at h3
theorem tw_lt {k : κ} : ∀ (l : List (κ × β)) (y : κ × β), y ∈ l.takeWhile (fun x => lt x.1 k) → lt y.1 k = true
 | [], y, h => by simp at h
 | a :: l, y, h => by
  by_cases ha : lt a.1 k = true
  ·
   rw [List.takeWhile_cons_of_pos (p := fun x : κ × β => lt x.1 k) ha] at h
   rcases List.mem_cons.1 h with rfl | h
   ·
    exact ha
   ·
    exact tw_lt l y h
  ·
   rw [List.takeWhile_cons_of_neg (p := fun x : κ × β => lt x.1 k) ha] at h; cases h
theorem dw_lt (K : LtOK lt) {k : κ} : ∀ (l : List (κ × β)), AOrd lt l → ∀ y, y ∈ l.dropWhile (fun x => lt x.1 k) → lt y.1 k = false
 | [], _, y, h => by simp at h
 | a :: l, ho, y, h => by
  by_cases ha : lt a.1 k = true
  ·
   rw [List.dropWhile_cons_of_pos (p := fun x : κ × β => lt x.1 k) ha] at h
   exact dw_lt K l (List.pairwise_cons.1 ho).2 y h
  ·
   rw [List.dropWhile_cons_of_neg (p := fun x : κ × β => lt x.1 k) ha] at h
   rcases List.mem_cons.1 h with rfl | h
   ·
    simpa using ha
   ·
    have h1 := (List.pairwise_cons.1 ho).1 y h
    cases h2 : lt y.1 k with
    | false => rfl
    | true => exact absurd (K.trn h1 h2) ha
theorem ord_insA (K : LtOK lt) {l : List (κ × β)} {k : κ} {v : β} (ho : AOrd lt l) (hx : lookA l k = none) : AOrd lt (insA lt l k v) := by
 have hx' := lookA_none.1 hx
 unfold insA AOrd
 have h := List.takeWhile_append_dropWhile (p := fun x : κ × β => lt x.1 k) (l := l)
 have ho' := ho
 unfold AOrd at ho'
 rw [← h, List.pairwise_append] at ho'
 obtain ⟨h1, h2, h3⟩ := ho'
 rw [List.pairwise_append]
 refine ⟨h1, List.pairwise_cons.2 ⟨fun y hy => ?_, h2⟩, fun a ha b hb => ?_⟩
 ·
  exact K.tot (dw_lt K l ho y hy) (hx' y (by rw [← h]; exact List.mem_append_right _ hy))
 ·
  rcases List.mem_cons.1 hb with rfl | hb
  ·
   exact tw_lt l a ha
  ·
   exact h3 a ha b hb
theorem len_insA (l : List (κ × β)) (k : κ) (v : β) : (insA lt l k v).length = l.length + 1 := by
 unfold insA
 have := congrArg List.length (List.takeWhile_append_dropWhile (p := fun x : κ × β => lt x.1 k) (l := l))
 rw [List.length_append] at this ⊢
 rw [List.length_cons]; omega
theorem mem_insA {l : List (κ × β)} {k : κ} {v : β} {y : κ × β} : y ∈ insA lt l k v ↔ y = (k, v) ∨ y ∈ l := by
 unfold insA
 have h := List.takeWhile_append_dropWhile (p := fun x : κ × β => lt x.1 k) (l := l)
 constructor
 ·
  intro hm
  rcases List.mem_append.1 hm with hm | hm
  ·
   exact .inr (by rw [← h]; exact List.mem_append_left _ hm)
  ·
   rcases List.mem_cons.1 hm with rfl | hm
   ·
    exact .inl rfl
   ·
    exact .inr (by rw [← h]; exact List.mem_append_right _ hm)
 ·
  rintro (rfl | hm)
  ·
   exact List.mem_append_right _ (by simp)
  ·
   rw [← h] at hm
   rcases List.mem_append.1 hm with hm | hm
   ·
    exact List.mem_append_left _ hm
   ·
    exact List.mem_append_right _ (List.mem_cons_of_mem _ hm)
theorem look_insA {l : List (κ × β)} {k : κ} (v : β) (hx : lookA l k = none) (k' : κ) : lookA (insA lt l k v) k' = if k' = k then some v else lookA l k' := by
 have hx' := lookA_none.1 hx
 unfold insA
 have h := List.takeWhile_append_dropWhile (p := fun x : κ × β => lt x.1 k) (l := l)
 rw [lookA_app, lookA_cons]
 by_cases e : k' = k
 ·
  subst e
  rw [if_pos rfl, if_pos rfl, lookA_none.2 fun x hx => hx' x (by rw [← h]; exact List.mem_append_left _ hx)]
  rfl
 ·
  rw [if_neg fun q => e q.symm, if_neg e, ← lookA_app, h]
theorem map_updA (l : List (κ × β)) (k : κ) (v : β) : (updA l k v).map (·.1) = l.map (·.1) := by
 unfold updA
 rw [List.map_map]
 refine List.map_congr_left fun x _ => ?_
 show (if x.1 = k then (k, v) else x).1 = x.1
 split
 ·
  rename_i e; exact e.symm
 ·
  rfl
theorem ord_map {l m : List (κ × β)} (h : l.map (·.1) = m.map (·.1)) (ho : AOrd lt l) : AOrd lt m := by
 unfold AOrd at *
 have a : (l.map (·.1)).Pairwise (fun x y => lt x y = true) := List.pairwise_map.2 ho
 rw [h] at a
 exact List.pairwise_map.1 a
theorem ord_updA {l : List (κ × β)} {k : κ} {v : β} (ho : AOrd lt l) : AOrd lt (updA l k v) := ord_map (map_updA l k v).symm ho
theorem len_updA (l : List (κ × β)) (k : κ) (v : β) : (updA l k v).length = l.length := by unfold updA; rw [List.length_map]
theorem look_updA : ∀ {l : List (κ × β)} {k : κ} (v : β) (hx : hasA l k = true) (k' : κ), lookA (updA l k v) k' = if k' = k then some v else lookA l k'
 | [], k, v, hx, k' => by simp [hasA, lookA] at hx
 | x :: l, k, v, hx, k' => by
  unfold updA
  rw [List.map_cons, lookA_cons, lookA_cons]
  by_cases e : x.1 = k
  ·
   rw [if_pos e]
   by_cases e2 : k' = k
   ·
    subst e2; rw [if_pos rfl, if_pos rfl]
   ·
    rw [if_neg fun q => e2 q.symm, if_neg e2, if_neg fun q => e2 (q.symm.trans e)]
    by_cases hl : hasA l k = true
    ·
     have := look_updA (l := l) v hl k'
     rw [if_neg e2] at this; exact this
    ·
     have hn : ∀ y ∈ l, y.1 ≠ k := lookA_none.1 (hasA_false.1 (by simpa using hl))
     rw [show l.map (fun x => if x.1 = k then (k, v) else x) = l from by
      conv => rhs; rw [← List.map_id l]
      exact List.map_congr_left fun y hy => by rw [if_neg (hn y hy)]; rfl]
  ·
   rw [if_neg e]
   have hl : hasA l k = true := by
    obtain ⟨y, hy, q⟩ := hasA_iff.1 hx
    rcases List.mem_cons.1 hy with rfl | hy
    ·
     exact absurd q e
    ·
     exact hasA_iff.2 ⟨y, hy, q⟩
   have ih := look_updA (l := l) v hl k'
   by_cases e2 : x.1 = k'
   ·
    rw [if_pos e2, if_neg fun q => e (e2.trans q), if_pos e2]
   ·
    rw [if_neg e2, if_neg e2]; exact ih
theorem mem_updA {l : List (κ × β)} {k : κ} {v : β} {y : κ × β} (h : y ∈ updA l k v) : y = (k, v) ∨ y ∈ l := by
 unfold updA at h
 obtain ⟨x, hx, e⟩ := List.mem_map.1 h
 split at e
 ·
  exact .inl e.symm
 ·
  exact .inr (by rw [← e]; exact hx)
theorem ord_putA (K : LtOK lt) {l : List (κ × β)} {k : κ} {v : β} (ho : AOrd lt l) : AOrd lt (putA lt l k v) := by
 unfold putA
 split
 ·
  exact ord_updA ho
 ·
  rename_i h; exact ord_insA K ho (hasA_false.1 (by simpa using h))
theorem look_putA {l : List (κ × β)} {k : κ} (v : β) (k' : κ) : lookA (putA lt l k v) k' = if k' = k then some v else lookA l k' := by
 unfold putA
 split
 ·
  rename_i h; exact look_updA v h k'
 ·
  rename_i h; exact look_insA v (hasA_false.1 (by simpa using h)) k'
theorem mem_putA {l : List (κ × β)} {k : κ} {v : β} {y : κ × β} (h : y ∈ putA lt l k v) : y = (k, v) ∨ y ∈ l := by
 unfold putA at h
 split at h
 ·
  exact mem_updA h
 ·
  exact mem_insA.1 h
theorem len_putA (l : List (κ × β)) (k : κ) (v : β) : (putA lt l k v).length = if hasA l k then l.length else l.length + 1 := by
 unfold putA
 split
 ·
  exact len_updA l k v
 ·
  exact len_insA l k v
theorem ord_delA {l : List (κ × β)} {k : κ} (ho : AOrd lt l) : AOrd lt (delA l k) := List.Pairwise.sublist List.filter_sublist ho
theorem look_delA (l : List (κ × β)) (k k' : κ) : lookA (delA l k) k' = if k' = k then none else lookA l k' := by
 by_cases e : k' = k
 ·
  subst e
  rw [if_pos rfl]
  refine lookA_none.2 fun x hx => ?_
  have := (List.mem_filter.1 hx).2
  simpa using this
 ·
  rw [if_neg e]
  unfold lookA delA
  rw [List.find?_filter]
  congr 2
  funext x
  by_cases h : x.1 = k'
  ·
   simp [h, e]
  ·
   simp [h]
theorem len_delA (K : LtOK lt) : ∀ {l : List (κ × β)} {k : κ}, AOrd lt l → (delA l k).length + (if hasA l k then 1 else 0) = l.length
 | [], k, _ => rfl
 | x :: l, k, ho => by
  have h' := List.pairwise_cons.1 ho
  have ih := len_delA K (k := k) h'.2
  by_cases e : x.1 = k
  ·
   have hn : lookA l k = none := lookA_none.2 fun y hy q => by
    have := h'.1 y hy
    rw [e, q, K.irr] at this; cases this
   have hf : hasA l k = false := hasA_false.2 hn
   rw [hf] at ih
   have ht : hasA (x :: l) k = true := hasA_iff.2 ⟨x, by simp, e⟩
   rw [ht]
   unfold delA at ih ⊢
   rw [List.filter_cons_of_neg (by simp [e]), List.length_cons]
   simpa using ih
  ·
   have hh : hasA (x :: l) k = hasA l k := by unfold hasA; rw [lookA_cons, if_neg e]
   rw [hh]
   unfold delA at ih ⊢
   rw [List.filter_cons_of_pos (by simp [e]), List.length_cons, List.length_cons]
   omega
end
end Go.Proofs.YtgnjnpddehdmcaaGreatDoor

namespace Go.Proofs.YtgnjnpddehdmcaaGreatDoor
open Go Go.RowKit Go.Sort
open Go.Maps (Keyed)
open Go.WideMaps (keyOf_string_mk)
set_option linter.unusedSimpArgs false
set_option linter.unusedVariables false
set_option linter.unusedSectionVars false
section
variable {P : Program} {k : TypeId} {w w' : World} {b n : Nat} {f : Value → Option Value}
theorem own_exact {R : Value → Option (DataW Value × List MemPlace)} {D : DataW Value} (h : w.ownsMap P k R b n D) : w.ownsMap P k R b (Maps.size D) D := by
 obtain ⟨es, clock, hb, F, hs, rfl⟩ := h
 exact ⟨es, clock, hb, F, by simp [Maps.size, length_sorted], rfl⟩
theorem MapOf.store_old {t e : TypeId} (h : MapOf P k w b n f) (K : Keyed P k) (ht : P.underlying t = some (.map k e)) (hn : n < maxLen) {key val : Value} {kl : Lit} (hkey : keyOf P k key = some kl) (hold : (f key).isSome = true)
  {f' : Value → Option Value} (hf1 : f' key = some val) (hf2 : ∀ x, x ≠ key → f' x = f x) :
  ∃ w', (Instr.mapUpdate t (.map (some b)) key val).run P w = .ok () w' ∧ MapOf P k w' b n f' ∧ w.mapTurned w' b := by
 obtain ⟨D, h1, h2, h3⟩ := h
 obtain ⟨w', hr, ho, hm⟩ := h1.store K ht hn (val := val) (d := .held val) (ps := []) hkey rfl
 have hsz : Maps.size (D.put kl (.held val)) = n := by rw [Maps.size_put (h1.tidy K), (h3 key kl hkey).1, hold, h2]; rfl
 have ho' := own_exact ho
 rw [hsz] at ho'
 refine ⟨w', hr, ⟨_, ho', hsz, fun key' kl' hk' => ?_⟩, hm⟩
 by_cases e : key' = key
 ·
  subst e
  obtain rfl : kl' = kl := Option.some.inj (hk'.symm.trans hkey)
  rw [hf1]
  exact ⟨Maps.has_put_same h1.isMap (K.key hkey) _, fun v hv z => by cases hv; exact Maps.atKey_put_same h1.isMap (K.key hkey) _ z⟩
 ·
  have hne : kl' ≠ kl := fun q => e (K.inj (q ▸ hk') hkey)
  rw [hf2 key' e]
  obtain ⟨a, c⟩ := h3 key' kl' hk'
  exact ⟨by rw [Maps.has_put_other hne, a], fun v hv z => by rw [Maps.atKey_put_other hne]; exact c v hv z⟩
theorem MapOf.drop {t e : TypeId} {m : Nat} (h : MapOf P k w b n f) (K : Keyed P k) (ht : P.underlying t = some (.map k e)) {key : Value} {kl : Lit} (hkey : keyOf P k key = some kl) (ty : TypeId)
  (hm : m + (if (f key).isSome then 1 else 0) = n) {f' : Value → Option Value} (hf1 : f' key = none) (hf2 : ∀ x, x ≠ key → f' x = f x) :
  ∃ w', (Builtin.delete_ #[t, k] ty #[.map (some b), key]).run P w = .ok (.tuple #[]) w' ∧ MapOf P k w' b m f' ∧ w.mapTurned w' b := by
 obtain ⟨D, h1, h2, h3⟩ := h
 obtain ⟨w', hr, ho, hmt⟩ := h1.drop K ht hkey ty
 have hsz : Maps.size (D.del kl) = m := by
  have := Maps.size_del (k := kl) (h1.tidy K)
  rw [(h3 key kl hkey).1, h2] at this
  omega
 have ho' := own_exact ho
 rw [hsz] at ho'
 refine ⟨w', hr, ⟨_, ho', hsz, fun key' kl' hk' => ?_⟩, hmt⟩
 by_cases e : key' = key
 ·
  subst e
  obtain rfl : kl' = kl := Option.some.inj (hk'.symm.trans hkey)
  rw [hf1]
  exact ⟨Maps.has_del_same, fun v hv => by cases hv⟩
 ·
  have hne : kl' ≠ kl := fun q => e (K.inj (q ▸ hk') hkey)
  rw [hf2 key' e]
  obtain ⟨a, c⟩ := h3 key' kl' hk'
  exact ⟨by rw [Maps.has_del_other hne, a], fun v hv z => by rw [Maps.atKey_del_other hne]; exact c v hv z⟩
end
/-! String keys. -/
section
variable {P : Program} {k : TypeId} {β : Type} {w w' : World} {b : Nat}
def sF (enc : β → Value) (l : List (ByteArray × β)) : Value → Option Value
 | .string s => (lookA l s).map enc
 | _ => none
def iF (enc : β → Value) (l : List (Int × β)) : Value → Option Value
 | .int .i64 a => (lookA l a).map enc
 | _ => none
abbrev MapS (P : Program) (k : TypeId) (enc : β → Value) (w : World) (b : Nat) (l : List (ByteArray × β)) : Prop := MapOf P k w b l.length (sF enc l)
abbrev MapI (P : Program) (k : TypeId) (enc : β → Value) (w : World) (b : Nat) (l : List (Int × β)) : Prop := MapOf P k w b l.length (iF enc l)
theorem sF_some (enc : β → Value) (l : List (ByteArray × β)) (s : ByteArray) : sF enc l (.string s) = (lookA l s).map enc := rfl
theorem iF_some (enc : β → Value) (l : List (Int × β)) (a : Int) : iF enc l (.int .i64 a) = (lookA l a).map enc := rfl
theorem sF_put (enc : β → Value) (lt : ByteArray → ByteArray → Bool) (l : List (ByteArray × β)) (s : ByteArray) (v : β) : sF enc (putA lt l s v) (.string s) = some (enc v) ∧ ∀ x, x ≠ .string s → sF enc (putA lt l s v) x = sF enc l x := by
 refine ⟨by rw [sF_some, look_putA, if_pos rfl]; rfl, fun x hx => ?_⟩
 unfold sF
 split
 ·
  rename_i s'
  rw [look_putA, if_neg]
  intro e; exact hx (by rw [e])
 ·
  rfl
theorem iF_put (enc : β → Value) (lt : Int → Int → Bool) (l : List (Int × β)) (a : Int) (v : β) : iF enc (putA lt l a v) (.int .i64 a) = some (enc v) ∧ ∀ x, x ≠ .int .i64 a → iF enc (putA lt l a v) x = iF enc l x := by
 refine ⟨by rw [iF_some, look_putA, if_pos rfl]; rfl, fun x hx => ?_⟩
 unfold iF
 split
 ·
  rename_i a'
  rw [look_putA, if_neg]
  intro e; exact hx (by rw [e])
 ·
  rfl
theorem sF_del (enc : β → Value) (l : List (ByteArray × β)) (s : ByteArray) : sF enc (delA l s) (.string s) = none ∧ ∀ x, x ≠ .string s → sF enc (delA l s) x = sF enc l x := by
 refine ⟨by rw [sF_some, look_delA, if_pos rfl]; rfl, fun x hx => ?_⟩
 unfold sF
 split
 ·
  rename_i s'
  rw [look_delA, if_neg]
  intro e; exact hx (by rw [e])
 ·
  rfl
theorem MapS.store {enc : β → Value} {lt : ByteArray → ByteArray → Bool} {l : List (ByteArray × β)} {t e : TypeId} (h : MapS P k enc w b l) (hk : P.underlying k = some .string) (ht : P.underlying t = some (.map k e)) (hn : l.length < maxLen) (s : ByteArray) (hs : s.size ≤ maxLen) (v : β) :
  ∃ w', (Instr.mapUpdate t (.map (some b)) (.string s) (enc v)).run P w = .ok () w' ∧ MapS P k enc w' b (putA lt l s v) ∧ w.mapTurned w' b := by
 have hkey := keyOf_string_mk hk hs
 obtain ⟨f1, f2⟩ := sF_put enc lt l s v
 cases hh : hasA l s with
 | true =>
  have hl : (putA lt l s v).length = l.length := by rw [len_putA, if_pos hh]
  unfold MapS
  rw [hl]
  refine h.store_old (Maps.string_keyed hk) ht hn hkey ?_ f1 f2
  rw [sF_some, Option.isSome_map]; exact hh
 | false =>
  have hl : (putA lt l s v).length = l.length + 1 := by rw [len_putA, if_neg (by simp [hh])]
  unfold MapS
  rw [hl]
  exact MapOf.store h (Maps.string_keyed hk) ht hn hkey (by rw [sF_some, hasA_false.1 hh]; rfl) f1 f2
theorem MapI.store {enc : β → Value} {lt : Int → Int → Bool} {l : List (Int × β)} {t e : TypeId} (h : MapI P k enc w b l) (hk : P.underlying k = some (.int .i64)) (ht : P.underlying t = some (.map k e)) (hn : l.length < maxLen) (a : Int) (ha : (Lit.int .i64 a).wf = true) (v : β) :
  ∃ w', (Instr.mapUpdate t (.map (some b)) (.int .i64 a) (enc v)).run P w = .ok () w' ∧ MapI P k enc w' b (putA lt l a v) ∧ w.mapTurned w' b := by
 have hkey := Maps.keyOf_int_mk hk ha
 obtain ⟨f1, f2⟩ := iF_put enc lt l a v
 cases hh : hasA l a with
 | true =>
  have hl : (putA lt l a v).length = l.length := by rw [len_putA, if_pos hh]
  unfold MapI
  rw [hl]
  refine h.store_old (Maps.int_keyed hk) ht hn hkey ?_ f1 f2
  rw [iF_some, Option.isSome_map]; exact hh
 | false =>
  have hl : (putA lt l a v).length = l.length + 1 := by rw [len_putA, if_neg (by simp [hh])]
  unfold MapI
  rw [hl]
  exact MapOf.store h (Maps.int_keyed hk) ht hn hkey (by rw [iF_some, hasA_false.1 hh]; rfl) f1 f2
theorem MapS.drop {enc : β → Value} {lt : ByteArray → ByteArray → Bool} (K : LtOK lt) {l : List (ByteArray × β)} {t e : TypeId} (h : MapS P k enc w b l) (ho : AOrd lt l) (hk : P.underlying k = some .string) (ht : P.underlying t = some (.map k e)) (s : ByteArray) (hs : s.size ≤ maxLen) (ty : TypeId) :
  ∃ w', (Builtin.delete_ #[t, k] ty #[.map (some b), .string s]).run P w = .ok (.tuple #[]) w' ∧ MapS P k enc w' b (delA l s) ∧ w.mapTurned w' b := by
 obtain ⟨f1, f2⟩ := sF_del enc l s
 refine MapOf.drop h (Maps.string_keyed hk) ht (keyOf_string_mk hk hs) ty ?_ f1 f2
 rw [sF_some, Option.isSome_map]
 exact len_delA K ho
theorem MapS.look_ok {enc : β → Value} {l : List (ByteArray × β)} {t e : TypeId} (h : MapS P k enc w b l) (hk : P.underlying k = some .string) (ht : P.underlying t = some (.map k e)) {z : Value} (hz : (zeroValue e).run P w = .ok z w) (s : ByteArray) (hs : s.size ≤ maxLen) :
  (Instr.lookup t (.map (some b)) (.string s) true).run P w = .ok (.tuple #[((lookA l s).map enc).getD z, .bool (hasA l s)]) w := by
 obtain ⟨v, hr, h1, h2⟩ := MapOf.look_ok h (Maps.string_keyed hk) ht hz (keyOf_string_mk hk hs)
 rw [hr]
 rw [sF_some] at h1 h2 ⊢
 unfold hasA
 cases hl : lookA l s with
 | none => rw [h2 (by rw [hl]; rfl)]; rfl
 | some x => rw [h1 (enc x) (by rw [hl]; rfl)]; rfl
theorem MapI.look_ok {enc : β → Value} {l : List (Int × β)} {t e : TypeId} (h : MapI P k enc w b l) (hk : P.underlying k = some (.int .i64)) (ht : P.underlying t = some (.map k e)) {z : Value} (hz : (zeroValue e).run P w = .ok z w) (a : Int) (ha : (Lit.int .i64 a).wf = true) :
  (Instr.lookup t (.map (some b)) (.int .i64 a) true).run P w = .ok (.tuple #[((lookA l a).map enc).getD z, .bool (hasA l a)]) w := by
 obtain ⟨v, hr, h1, h2⟩ := MapOf.look_ok h (Maps.int_keyed hk) ht hz (Maps.keyOf_int_mk hk ha)
 rw [hr]
 rw [iF_some] at h1 h2 ⊢
 unfold hasA
 cases hl : lookA l a with
 | none => rw [h2 (by rw [hl]; rfl)]; rfl
 | some x => rw [h1 (enc x) (by rw [hl]; rfl)]; rfl
theorem MapS.keys {enc : β → Value} {lt : ByteArray → ByteArray → Bool} (K : LtOK lt) {l : List (ByteArray × β)} (h : MapS P k enc w b l) (ho : AOrd lt l) (hk : P.underlying k = some .string) (hs : ∀ x ∈ l, x.1.size ≤ maxLen) :
  ∃ D, w.ownsMap P k heldE b l.length D ∧ Maps.size D = l.length ∧ (l.map fun x => x.1.data.toList).Perm (strKeys D) := by
 obtain ⟨D, h1, h2, h3⟩ := h
 refine ⟨D, h1, h2, ?_⟩
 obtain ⟨es, rfl, hp, hkl⟩ := h1.entries (Maps.string_keyed hk)
 have hst : ∀ p ∈ es, ∃ x, p.1 = .string x ∧ x.length ≤ maxLen := by
  obtain ⟨es', e, hk'⟩ := h1.keysOf
  injection e with e
  subst e
  intro p hp'
  obtain ⟨key, hkey⟩ := hk' p hp'
  obtain ⟨x, -, e2, e3⟩ := Maps.keyOf_str hk hkey
  exact ⟨x, e2, e3⟩
 refine perm_strKeys hp (fun p hp' => by obtain ⟨x, e, _⟩ := hst p hp'; exact ⟨x, e⟩) ?_ fun x => ?_
 ·
  have := ho.nodup K
  rw [show (l.map fun x => x.1.data.toList) = (l.map (·.1)).map (fun s : ByteArray => s.data.toList) from by rw [List.map_map]; rfl]
  rw [List.Nodup] at this ⊢
  rw [List.pairwise_map]
  refine this.imp fun {a c} hne e => hne ?_
  cases a; cases c
  simp only at e
  congr 1
  exact Array.toList_inj.1 e
 ·
  constructor
  ·
   intro hx
   obtain ⟨y, hy, rfl⟩ := List.mem_map.1 hx
   have := (h3 (.string y.1) (.string y.1.data.toList) (keyOf_string_mk hk (hs y hy))).1
   rw [this, sF_some, Option.isSome_map]
   exact hasA_iff.2 ⟨y, hy, rfl⟩
  ·
   intro hx
   by_cases hlen : x.length ≤ maxLen
   ·
    have := (h3 (.string ⟨x.toArray⟩) (.string x) (by
     have := keyOf_string_mk (P := P) (k := k) hk (s := ⟨x.toArray⟩) (by show x.toArray.size ≤ maxLen; rw [List.size_toArray]; exact hlen)
     simpa using this)).1
    rw [hx, sF_some, Option.isSome_map] at this
    obtain ⟨y, hy, e⟩ := hasA_iff.1 this.symm
    exact List.mem_map.2 ⟨y, hy, by rw [e]⟩
   ·
    exfalso
    rw [Maps.has_eq, List.any_eq_true] at hx
    obtain ⟨p, hp', hs'⟩ := hx
    obtain ⟨y, e1, e2⟩ := hst p hp'
    rw [e1] at hs'
    have e3 : y = x := by simpa [Lit.sameKey] using hs'
    exact hlen (e3 ▸ e2)
theorem MapI.keys {enc : β → Value} {lt : Int → Int → Bool} (K : LtOK lt) {l : List (Int × β)} (h : MapI P k enc w b l) (ho : AOrd lt l) (hk : P.underlying k = some (.int .i64)) (hs : ∀ x ∈ l, (Lit.int .i64 x.1).wf = true) :
  ∃ D, w.ownsMap P k heldE b l.length D ∧ Maps.size D = l.length ∧ (l.map fun x => x.1).Perm (intKeys D) := by
 obtain ⟨D, h1, h2, h3⟩ := h
 refine ⟨D, h1, h2, ?_⟩
 obtain ⟨es, rfl, hp, hkl⟩ := h1.entries (Maps.int_keyed hk)
 have hst : ∀ p ∈ es, ∃ x, p.1 = .int .i64 x ∧ (Lit.int .i64 x).wf = true := by
  obtain ⟨es', e, hk'⟩ := h1.keysOf
  injection e with e
  subst e
  intro p hp'
  obtain ⟨key, hkey⟩ := hk' p hp'
  obtain ⟨x, -, e2, e3⟩ := Maps.keyOf_i64 hk hkey
  exact ⟨x, e2, e3⟩
 refine perm_intKeys hp (fun p hp' => by obtain ⟨x, e, _⟩ := hst p hp'; exact ⟨x, e⟩) (ho.nodup K) fun x => ?_
 constructor
 ·
  intro hx
  obtain ⟨y, hy, rfl⟩ := List.mem_map.1 hx
  have := (h3 (.int .i64 y.1) (.int .i64 y.1) (Maps.keyOf_int_mk hk (hs y hy))).1
  rw [this, iF_some, Option.isSome_map]
  exact hasA_iff.2 ⟨y, hy, rfl⟩
 ·
  intro hx
  have hw : (Lit.int .i64 x).wf = true := by
   have hx' := hx
   rw [Maps.has_eq, List.any_eq_true] at hx'
   obtain ⟨p, hp', hs'⟩ := hx'
   obtain ⟨y, e1, e2⟩ := hst p hp'
   rw [e1] at hs'
   have e3 : y = x := by simpa [Lit.sameKey] using hs'
   exact e3 ▸ e2
  have := (h3 (.int .i64 x) (.int .i64 x) (Maps.keyOf_int_mk hk hw)).1
  rw [hx, iF_some, Option.isSome_map] at this
  obtain ⟨y, hy, e⟩ := hasA_iff.1 this.symm
  exact List.mem_map.2 ⟨y, hy, e⟩
theorem sort_keys {ks ss : List (List UInt8)} (h1 : ks.Pairwise fun a b => a < b) {D : DataW Value} (hp : ks.Perm (strKeys D)) (hs : ss.Perm (strKeys D)) : ss.mergeSort (fun x y => decide (x ≤ y)) = ks := by
 rw [mergeSort_of_perm (hs.trans hp.symm)]
 exact List.mergeSort_of_pairwise (h1.imp fun {a b} h => by simpa using List.le_of_lt h)
theorem sort_keysI {ks ss : List Int} (h1 : ks.Pairwise fun a b => a < b) {D : DataW Value} (hp : ks.Perm (intKeys D)) (hs : ss.Perm (intKeys D)) : ss.mergeSort (fun x y => decide (x ≤ y)) = ks := by
 rw [mergeSort_of_perm_i (hs.trans hp.symm)]
 exact List.mergeSort_of_pairwise (h1.imp fun {a b} h => by simpa using Int.le_of_lt h)
end
end Go.Proofs.YtgnjnpddehdmcaaGreatDoor

namespace Go.Proofs.YtgnjnpddehdmcaaGreatDoor.Co
open Go.RowKit
set_option linter.unusedSimpArgs false
set_option linter.unusedVariables false
structure CR where
 v : Int
 up : Int
 dn : Int
 lo : Int
 hi : Int
 e : Int
def CR.bad (e : Int) : CR := ⟨0, 0, 0, 0, 0, e⟩
def CR.ok (v up dn lo hi : Int) : CR := ⟨v, up, dn, lo, hi, 0⟩
def CR.val (r : CR) : Value := .tuple #[.agg #[.int .i64 r.v, .int .i64 r.up, .int .i64 r.dn, .int .i64 r.lo, .int .i64 r.hi], .int .i64 r.e]

def doR (v up dn lo hi d : Int) : CR :=
 if ckOK v up dn lo hi = true ∧ inNum d = true then
  if 0 ≤ d then (if hi < v + dn + d ∨ 1152921504606846976 < up + d then .bad 7 else .ok (v + d) (up + d) dn lo hi)
  else (if v - up + d < lo ∨ 1152921504606846976 < dn - d then .bad 7 else .ok (v + d) up (dn - d) lo hi)
 else .bad 2
def freeR (v up dn lo hi d : Int) : CR :=
 if ckOK v up dn lo hi = true ∧ inNum d = true then
  if 0 ≤ d then (if up < d then .bad 9 else .ok v (up - d) dn lo hi)
  else (if dn < -d then .bad 9 else .ok v up (dn + d) lo hi)
 else .bad 2
def undoR (v up dn lo hi d : Int) : CR :=
 if ckOK v up dn lo hi = true ∧ inNum d = true then
  if 0 ≤ d then (if up < d then .bad 9 else .ok (v - d) (up - d) dn lo hi)
  else (if dn < -d then .bad 9 else .ok (v - d) up (dn + d) lo hi)
 else .bad 2

theorem ckOK_iff (v up dn lo hi : Int) : ckOK v up dn lo hi = true ↔ (-1152921504606846976 ≤ v ∧ v ≤ 1152921504606846976) ∧ (up ≤ 1152921504606846976 ∧ dn ≤ 1152921504606846976) ∧ (-1152921504606846976 ≤ lo ∧ hi ≤ 1152921504606846976) ∧ 0 ≤ up ∧ 0 ≤ dn ∧ lo ≤ v - up ∧ v + dn ≤ hi := by
 simp [ckOK, inNum]; omega

end Go.Proofs.YtgnjnpddehdmcaaGreatDoor.Co

namespace Go.Proofs.YtgnjnpddehdmcaaGreatDoor.Co
open Go.RowKit
set_option linter.unusedSimpArgs false
set_option linter.unusedVariables false
attribute [local go_sem] CR.val

theorem ckOK_lin {v up dn lo hi : Int} (h : ckOK v up dn lo hi = true) : (-1152921504606846976 ≤ v ∧ v ≤ 1152921504606846976) ∧ (up ≤ 1152921504606846976 ∧ dn ≤ 1152921504606846976) ∧ (-1152921504606846976 ≤ lo ∧ hi ≤ 1152921504606846976) ∧ 0 ≤ up ∧ 0 ≤ dn ∧ lo ≤ v - up ∧ v + dn ≤ hi := (ckOK_iff _ _ _ _ _).1 h

end Go.Proofs.YtgnjnpddehdmcaaGreatDoor.Co

namespace Go.Proofs.YtgnjnpddehdmcaaGreatDoor.Co
open Go.RowKit
set_option linter.unusedSimpArgs false
set_option linter.unusedVariables false

end Go.Proofs.YtgnjnpddehdmcaaGreatDoor.Co

namespace Go.Proofs.YtgnjnpddehdmcaaGreatDoor.Co
open Go.RowKit
set_option linter.unusedSimpArgs false
set_option linter.unusedVariables false
theorem check_ok (v up dn lo hi : Int) (h : ckOK v up dn lo hi = true) (w : World) :
  Calls Tryz.prog 85 #[.agg #[.int .i64 v, .int .i64 up, .int .i64 dn, .int .i64 lo, .int .i64 hi]] w fun e w' => e = .returned (.int .i64 0) ∧ Below w.heap.size w w' :=
 (check_any v up dn lo hi w).mono fun e w' hh => ⟨hh.1.trans (by rw [ckE, if_pos h]), hh.2⟩
theorem check_bad (v up dn lo hi : Int) (h : ckOK v up dn lo hi = false) (w : World) :
  Calls Tryz.prog 85 #[.agg #[.int .i64 v, .int .i64 up, .int .i64 dn, .int .i64 lo, .int .i64 hi]] w fun e w' => e = .returned (.int .i64 2) ∧ Below w.heap.size w w' :=
 (check_any v up dn lo hi w).mono fun e w' hh => ⟨hh.1.trans (by rw [ckE, if_neg (by simp [h])]), hh.2⟩

end Go.Proofs.YtgnjnpddehdmcaaGreatDoor.Co

namespace Go.Proofs.YtgnjnpddehdmcaaGreatDoor
open Go.RowKit
set_option linter.unusedSimpArgs false
set_option linter.unusedVariables false
def copySem (ts : Array TypeId) (ty : TypeId) (args : Array Value) : Sem Value := Builtin.copy_ ts ty args
theorem hideCopy (ts : Array TypeId) (ty : TypeId) (args : Array Value) : Builtin.copy_ ts ty args = copySem ts ty args := rfl
section
variable {P : Program} {t ty e : TypeId} {k bytes : Nat}
theorem copy_cells (hE : Elem P t e k bytes) {W : World} {g o dLen dCap sLen sCap : Nat} {a : Addr} {cur : Array Value} {T : TypeId} {cs : List Value} (hg : W.heap[g]? = some (.cells cur T (0, 0))) (hn : cs.length = Nat.min sLen dLen * k)
  (hsrc : ∀ j v, cs[j]? = some v → W.cell? (a.add j) = some v) (hfit : o + cs.length ≤ cur.size) (h1 : ∀ v ∈ cs, v.oneCell' = true) :
  (copySem #[t, t] ty #[.slice (some ⟨g, o, none⟩) dLen dCap, .slice (some a) sLen sCap]).run P W = .ok (goInt (Nat.min sLen dLen)) (W.setRow g (cur.toList.take o ++ cs ++ cur.toList.drop (o + cs.length)).toArray) := by
 obtain ⟨hu, ⟨i, z, hi, hz0, hz1, hz2, hzc⟩, hp⟩ := hE
 have hl := run_loadCells_list (P := P) W a cs hsrc
 have hst := run_storeCells_at P g o T cs 0 cur W hg (by simpa using hfit) h1
 simp only [Nat.add_zero] at hst
 show (Builtin.copy_ _ _ _).run P W = _
 rw [hn] at hl
 simp [Builtin.copy_, run_underlying hu, Builtin.lenOf, Builtin.firstCells, sizeOf, typeInfo, hi, hz1, hl, hst]
end
section
variable {α : Type} {enc : α → List Value} {k : Nat}
theorem SL.addCells {w : World} {b o n : Nat} {l : List α} (hk : ∀ x, (enc x).length = k) (hp : 0 < k) (h : SL enc k w (some ⟨b, o, none⟩) n l) : ∀ (j : Nat) (u : Value), (flat enc l)[j]? = some u → w.cell? ((⟨b, o, none⟩ : Addr).add j) = some u := by
 intro j u hu
 have hj := (List.getElem?_eq_some_iff.1 hu).1
 rw [flat_length hk, h.1] at hj
 have hn : 0 < n := by rcases Nat.eq_zero_or_pos n with q | q; (rw [q] at hj; omega); exact q
 obtain ⟨b', o', e, _, hc⟩ := h.2 hn
 injection e with e
 injection e with e1 e2
 subst e1 e2
 exact SL.flatCells hk hp h.1 hc j u hu
theorem own_mk {w : World} {base g n c : Nat} {e : TypeId} {cur : Array Value} {xs : List Value} (hb : base ≤ g) (hg : w.heap[g]? = some (.cells cur e (0, 0))) (hn : n ≤ c) (hm : c ≤ maxLen) (hs : cur.size = c * k) (hl : xs.length = n * k) (ht : cur.toList.take (n * k) = xs) :
  w.ownsRow base e k (.slice (some ⟨g, 0, none⟩) n c) n xs := ⟨hl, .inr ⟨g, c, cur, rfl, hb, hg, hn, hm, hs, ht⟩⟩
theorem sliced_at (g o l h m s : Nat) (hm : m ≠ l) : sliced (some ⟨g, o, none⟩) l h m s = .slice (some ⟨g, o + l * s, none⟩) (h - l) (m - l) := by
 unfold sliced
 rw [if_neg hm]
 simp [Addr.add]
theorem sliced_at0 (g l h m s : Nat) (hm : m ≠ l) : sliced (some ⟨g, 0, none⟩) l h m s = .slice (some ⟨g, l * s, none⟩) (h - l) (m - l) := by
 rw [sliced_at g 0 l h m s hm, Nat.zero_add]
theorem sliced_low (A : Option Addr) (h m s : Nat) (hA : ∀ a, A = some a → a.spot = none) : sliced A 0 h m s = .slice A h m := by
 unfold sliced
 split
 ·
  simp
 ·
  cases A with
  | none => simp
  | some a =>
   have := hA a rfl
   obtain ⟨b, o, sp⟩ := a
   simp only at this
   subst this
   simp [Addr.add]
theorem flat_cut (hk : ∀ x, (enc x).length = k) (l : List α) (i : Nat) (hi : i ≤ l.length) : (flat enc l).take (i * k) = flat enc (l.take i) ∧ (flat enc l).drop (i * k) = flat enc (l.drop i) := by
 have h : flat enc l = flat enc (l.take i) ++ flat enc (l.drop i) := by rw [← flat_app, List.take_append_drop]
 have hl : (flat enc (l.take i)).length = i * k := by rw [flat_length hk, List.length_take, Nat.min_eq_left hi]
 rw [h]
 exact ⟨by rw [← hl, List.take_left], by rw [← hl, List.drop_left]⟩
end
theorem up_list {β : Type} (F1 F2 R v : List β) (p k q : Nat) (h1 : F1.length = p) (hv : v.length = k) (h2 : F2.length = q) (hk : k ≤ q) :
  ((F1 ++ F2 ++ R).take (p + k) ++ F2 ++ (F1 ++ F2 ++ R).drop (p + k + q)).take p ++ v ++ ((F1 ++ F2 ++ R).take (p + k) ++ F2 ++ (F1 ++ F2 ++ R).drop (p + k + q)).drop (p + k) = F1 ++ v ++ F2 ++ R.drop k := by
 have e1 : (F1 ++ F2 ++ R).take (p + k) = F1 ++ F2.take k := by
  rw [List.append_assoc, List.take_append, h1, List.take_of_length_le (by omega), Nat.add_sub_cancel_left, List.take_append_of_le_length (by omega)]
 have e2 : (F1 ++ F2 ++ R).drop (p + k + q) = R.drop k := by
  rw [List.drop_append, List.length_append, h1, h2, List.drop_eq_nil_of_le (by rw [List.length_append]; omega), List.nil_append]
  congr 1; omega
 have e3 : (F1 ++ F2.take k).length = p + k := by rw [List.length_append, List.length_take, h1, h2, Nat.min_eq_left hk]
 rw [e1, e2]
 have e4 : (F1 ++ F2.take k ++ F2 ++ R.drop k).take p = F1 := by
  rw [List.append_assoc, List.append_assoc, List.take_append_of_le_length (by omega), List.take_of_length_le (by omega)]
 have e5 : (F1 ++ F2.take k ++ F2 ++ R.drop k).drop (p + k) = F2 ++ R.drop k := by
  rw [List.append_assoc, List.drop_append_of_le_length (by omega), List.drop_eq_nil_of_le (by omega), List.nil_append]
 rw [e4, e5]
 simp [List.append_assoc]
theorem new_list {β : Type} (F1 F2 Z v : List β) (p k q : Nat) (h1 : F1.length = p) (hv : v.length = k) (h2 : F2.length = q) :
  ((F1 ++ Z).take p ++ v ++ (F1 ++ Z).drop (p + k)).take (p + k) ++ F2 ++ ((F1 ++ Z).take p ++ v ++ (F1 ++ Z).drop (p + k)).drop (p + k + q) = F1 ++ v ++ F2 ++ (Z.drop k).drop q := by
 have e1 : (F1 ++ Z).take p = F1 := by rw [List.take_append_of_le_length (by omega), List.take_of_length_le (by omega)]
 have e2 : (F1 ++ Z).drop (p + k) = Z.drop k := by rw [List.drop_append, h1, List.drop_eq_nil_of_le (by omega), List.nil_append]; congr 1; omega
 have e3 : (F1 ++ v).length = p + k := by rw [List.length_append]; omega
 rw [e1, e2, List.take_append_of_le_length (by omega), List.take_of_length_le (by omega), List.drop_append, e3, List.drop_eq_nil_of_le (by omega), List.nil_append]
 congr 2; omega
def clearSem (ts : Array TypeId) (ty : TypeId) (args : Array Value) : Sem Value := Builtin.clear_ ts ty args
theorem hideClear (ts : Array TypeId) (ty : TypeId) (args : Array Value) : Builtin.clear_ ts ty args = clearSem ts ty args := rfl
theorem clear_cells {P : Program} {t ty e : TypeId} {z : Value} {W : World} {g o n c k : Nat} {cur : Array Value} {T : TypeId} (ht : P.underlying t = some (.slice e)) (hv : ∀ w, (zeroValue e).run P w = .ok z w) (hk : z.cells.size = k) (h1 : ∀ u ∈ z.cells, u.oneCell' = true) (hn : 0 < n) (hk0 : 0 < k)
  (hg : W.heap[g]? = some (.cells cur T (0, 0))) (hfit : o + n * k ≤ cur.size) :
  ∃ Z : List Value, Z.length = n * k ∧ (clearSem #[t] ty #[.slice (some ⟨g, o, none⟩) n c]).run P W = .ok (.tuple #[]) (W.setRow g (cur.toList.take o ++ Z ++ cur.toList.drop (o + Z.length)).toArray) := by
 obtain ⟨n, rfl⟩ : ∃ m, n = m + 1 := ⟨n - 1, by omega⟩
 have hZl : (Builtin.zeroCells z.cells (n + 1)).toList.length = (n + 1) * k := by rw [Array.length_toList, size_zeroCells, hk]
 refine ⟨(Builtin.zeroCells z.cells (n + 1)).toList, hZl, ?_⟩
 have hst := run_storeCells_at P g o T (Builtin.zeroCells z.cells (n + 1)).toList 0 cur W hg (by rw [hZl]; omega) (fun v hv => by
  simp only [Builtin.zeroCells, Array.toList_map, List.mem_map] at hv
  obtain ⟨i, _, rfl⟩ := hv
  have hlt : i % z.cells.size < z.cells.size := Nat.mod_lt _ (by omega)
  rw [getElem!_pos z.cells _ hlt]
  exact h1 _ (Array.getElem_mem hlt))
 simp only [Nat.add_zero] at hst
 show (Builtin.clear_ _ _ _).run P W = _
 simp [Builtin.clear_, run_underlying ht, hv, hst]
end Go.Proofs.YtgnjnpddehdmcaaGreatDoor

namespace Go.Proofs.YtgnjnpddehdmcaaGreatDoor
open Go.RowKit Go.Shelf
set_option linter.unusedSimpArgs false
set_option linter.unusedVariables false
set_option linter.unusedSectionVars false
set_option maxRecDepth 10000
def encP (x : En) : List Value := [.int .i64 x.r.1, .int .i64 x.r.2.1, .string x.r.2.2, .int .i64 x.e.1, .int .i64 x.e.2.1, .int .i64 x.e.2.2, .string x.k]
def encR (x : En) : List Value := [.int .i64 x.e.1, .int .i64 x.e.2.1, .int .i64 x.e.2.2, .string x.k, .int .i64 x.r.1, .int .i64 x.r.2.1, .string x.r.2.2]
theorem encP_len (x : En) : (encP x).length = 7 := rfl
theorem encP_one (x : En) : ∀ u ∈ encP x, u.oneCell' = true := by intro u hu; simp [encP] at hu; rcases hu with rfl | rfl | rfl | rfl | rfl | rfl | rfl <;> rfl
theorem elemP : Elem Tryz.prog 151 125 7 72 := elem_of (z := .agg #[.int .i64 0, .int .i64 0, .string ⟨#[]⟩, .int .i64 0, .int .i64 0, .int .i64 0, .string ⟨#[]⟩]) Tryz.underlying151 (by kernel_rfl) rfl (by omega)
def PS (w : World) (A : Option Addr) (n : Nat) (l : List En) : Prop := SL encP 7 w A n l
def RS (w : World) (A : Option Addr) (n : Nat) (l : List En) : Prop := SL encR 7 w A n l
end Go.Proofs.YtgnjnpddehdmcaaGreatDoor

namespace Go.Proofs
open Go.Shelf
def Tryz.keysCounts_ren : Go.Shelf.Ren := ⟨fun | 7 => 218 | 10 => 268 | n => n, fun | 23 => 154 | 26 => 9 | 3 => 58 | 28 => 261 | 0 => 0 | 27 => 260 | 33 => 128 | 4 => 4 | n => n, fun | n => n⟩
theorem Tryz.keysCounts : Go.Proofs.SlLaysZ.n7 Tryz.prog Tryz.keysCounts_ren := {
 mixed := by kernel_rfl
 f7 := ⟨Tryz.f218.name, by decide, Tryz.func218.trans (congrArg some (by kernel_rfl))⟩
 f10 := ⟨Tryz.f268.name, by decide, Tryz.func268.trans (congrArg some (by kernel_rfl))⟩
 t0 := Tryz.underlying0
 a0 := Tryz.isAgg0
 z0 := Tryz.sizeOf0
 v0 := Tryz.zeroValue0
 t4 := Tryz.underlying4
 a4 := Tryz.isAgg4
 z4 := Tryz.sizeOf4
 v4 := Tryz.zeroValue4
 t23 := Tryz.underlying154
 a23 := Tryz.isAgg154
 z23 := Tryz.sizeOf154
 v23 := Tryz.zeroValue154
 t26 := Tryz.underlying9
 a26 := Tryz.isAgg9
 z26 := Tryz.sizeOf9
 v26 := Tryz.zeroValue9
 t27 := Tryz.underlying260
 a27 := Tryz.isAgg260
 z27 := Tryz.sizeOf260
 v27 := Tryz.zeroValue260
 t28 := Tryz.underlying261
 a28 := Tryz.isAgg261
 z28 := Tryz.sizeOf261
 v28 := Tryz.zeroValue261
 t33 := Tryz.underlying128
 a33 := Tryz.isAgg128
 z33 := Tryz.sizeOf128
 v33 := Tryz.zeroValue128 }
def Tryz.sortedZ_ren : Go.Shelf.Ren := ⟨fun | 6 => 217 | 8 => 266 | 9 => 267 | 11 => 293 | 13 => 164 | 12 => 294 | 23 => 229 | 24 => 230 | 14 => 308 | 15 => 309 | 16 => 310 | 17 => 311 | 18 => 312 | 19 => 313 | 20 => 239 | 21 => 314 | 22 => 315 | 25 => 322 | 26 => 270 | 27 => 271 | 28 => 323 | 29 => 324 | 30 => 186 | 31 => 326 | n => n, fun | 26 => 9 | 28 => 261 | 24 => 43 | 0 => 0 | 3 => 3 | 37 => 210 | 48 => 271 | 50 => 169 | 4 => 4 | 40 => 265 | 39 => 264 | 45 => 211 | 5 => 5 | 9 => 9 | 51 => 315 | 55 => 183 | 57 => 335 | 58 => 336 | 33 => 128 | n => n, fun | n => n⟩
theorem Tryz.sortedZ : Go.Proofs.SlLaysZ.n6 Tryz.prog Tryz.sortedZ_ren := {
 mixed := by kernel_rfl
 f6 := ⟨Tryz.f217.name, by decide, Tryz.func217.trans (congrArg some (by kernel_rfl))⟩
 f8 := ⟨Tryz.f266.name, by decide, Tryz.func266.trans (congrArg some (by kernel_rfl))⟩
 f11 := ⟨Tryz.f293.name, by decide, Tryz.func293.trans (congrArg some (by kernel_rfl))⟩
 t0 := Tryz.underlying0
 a0 := Tryz.isAgg0
 z0 := Tryz.sizeOf0
 v0 := Tryz.zeroValue0
 t24 := Tryz.underlying43
 a24 := Tryz.isAgg43
 z24 := Tryz.sizeOf43
 v24 := Tryz.zeroValue43
 t26 := Tryz.underlying9
 a26 := Tryz.isAgg9
 z26 := Tryz.sizeOf9
 v26 := Tryz.zeroValue9
 t28 := Tryz.underlying261
 a28 := Tryz.isAgg261
 z28 := Tryz.sizeOf261
 v28 := Tryz.zeroValue261
 i26 := by kernel_rfl }
def Tryz.sortZ_ren : Go.Shelf.Ren := ⟨fun | 6 => 267 | 8 => 164 | 9 => 294 | 19 => 229 | 20 => 230 | 21 => 308 | 22 => 309 | 23 => 310 | 24 => 311 | 25 => 312 | 26 => 313 | 27 => 239 | 28 => 314 | 29 => 315 | 36 => 322 | 31 => 270 | 32 => 271 | 37 => 323 | 38 => 324 | 39 => 186 | 41 => 326 | n => n, fun | 27 => 43 | 29 => 9 | 3 => 3 | 32 => 210 | 26 => 43 | 0 => 0 | 44 => 271 | 46 => 169 | 4 => 4 | 36 => 265 | 35 => 264 | 41 => 211 | 5 => 5 | 9 => 9 | 53 => 315 | 57 => 183 | 63 => 335 | 64 => 336 | n => n, fun | n => n⟩
theorem Tryz.sortZ : Go.Proofs.SlLaysM.n6 Tryz.prog Tryz.sortZ_ren := {
 mixed := by kernel_rfl
 f6 := ⟨Tryz.f267.name, by decide, Tryz.func267.trans (congrArg some (by kernel_rfl))⟩
 f8 := Tryz.func164.trans (congrArg some (by kernel_rfl))
 f9 := ⟨Tryz.f294.name, by decide, Tryz.func294.trans (congrArg some (by kernel_rfl))⟩
 f19 := Tryz.func229.trans (congrArg some (by kernel_rfl))
 f20 := Tryz.func230.trans (congrArg some (by kernel_rfl))
 f21 := ⟨Tryz.f308.name, by decide, Tryz.func308.trans (congrArg some (by kernel_rfl))⟩
 f22 := ⟨Tryz.f309.name, by decide, Tryz.func309.trans (congrArg some (by kernel_rfl))⟩
 f23 := ⟨Tryz.f310.name, by decide, Tryz.func310.trans (congrArg some (by kernel_rfl))⟩
 f24 := ⟨Tryz.f311.name, by decide, Tryz.func311.trans (congrArg some (by kernel_rfl))⟩
 f25 := ⟨Tryz.f312.name, by decide, Tryz.func312.trans (congrArg some (by kernel_rfl))⟩
 f26 := ⟨Tryz.f313.name, by decide, Tryz.func313.trans (congrArg some (by kernel_rfl))⟩
 f27 := ⟨Tryz.f239.name, by decide, Tryz.func239.trans (congrArg some (by kernel_rfl))⟩
 f28 := ⟨Tryz.f314.name, by decide, Tryz.func314.trans (congrArg some (by kernel_rfl))⟩
 f29 := ⟨Tryz.f315.name, by decide, Tryz.func315.trans (congrArg some (by kernel_rfl))⟩
 f31 := Tryz.func270.trans (congrArg some (by kernel_rfl))
 f32 := Tryz.func271.trans (congrArg some (by kernel_rfl))
 f36 := ⟨Tryz.f322.name, by decide, Tryz.func322.trans (congrArg some (by kernel_rfl))⟩
 f37 := ⟨Tryz.f323.name, by decide, Tryz.func323.trans (congrArg some (by kernel_rfl))⟩
 f38 := ⟨Tryz.f324.name, by decide, Tryz.func324.trans (congrArg some (by kernel_rfl))⟩
 f39 := ⟨Tryz.f186.name, by decide, Tryz.func186.trans (congrArg some (by kernel_rfl))⟩
 f41 := ⟨Tryz.f326.name, by decide, Tryz.func326.trans (congrArg some (by kernel_rfl))⟩
 t0 := Tryz.underlying0
 a0 := Tryz.isAgg0
 z0 := Tryz.sizeOf0
 v0 := Tryz.zeroValue0
 t3 := Tryz.underlying3
 a3 := Tryz.isAgg3
 z3 := Tryz.sizeOf3
 v3 := Tryz.zeroValue3
 t4 := Tryz.underlying4
 a4 := Tryz.isAgg4
 z4 := Tryz.sizeOf4
 v4 := Tryz.zeroValue4
 t5 := Tryz.underlying5
 a5 := Tryz.isAgg5
 z5 := Tryz.sizeOf5
 v5 := Tryz.zeroValue5
 t9 := Tryz.underlying9
 a9 := Tryz.isAgg9
 z9 := Tryz.sizeOf9
 v9 := Tryz.zeroValue9
 t26 := Tryz.underlying43
 a26 := Tryz.isAgg43
 z26 := Tryz.sizeOf43
 v26 := Tryz.zeroValue43
 t27 := Tryz.underlying43
 a27 := Tryz.isAgg43
 z27 := Tryz.sizeOf43
 v27 := Tryz.zeroValue43
 t29 := Tryz.underlying9
 a29 := Tryz.isAgg9
 z29 := Tryz.sizeOf9
 v29 := Tryz.zeroValue9
 t32 := Tryz.underlying210
 a32 := Tryz.isAgg210
 z32 := Tryz.sizeOf210
 v32 := Tryz.zeroValue210
 t35 := Tryz.underlying264
 a35 := Tryz.isAgg264
 z35 := Tryz.sizeOf264
 v35 := Tryz.zeroValue264
 t36 := Tryz.underlying265
 a36 := Tryz.isAgg265
 z36 := Tryz.sizeOf265
 v36 := Tryz.zeroValue265
 t41 := Tryz.underlying211
 a41 := Tryz.isAgg211
 z41 := Tryz.sizeOf211
 v41 := Tryz.zeroValue211
 t44 := Tryz.underlying271
 a44 := Tryz.isAgg271
 z44 := Tryz.sizeOf271
 v44 := Tryz.zeroValue271
 t46 := Tryz.underlying169
 a46 := Tryz.isAgg169
 z46 := Tryz.sizeOf169
 v46 := Tryz.zeroValue169
 t53 := Tryz.underlying315
 a53 := Tryz.isAgg315
 z53 := Tryz.sizeOf315
 v53 := Tryz.zeroValue315
 t57 := Tryz.underlying183
 a57 := Tryz.isAgg183
 z57 := Tryz.sizeOf183
 v57 := Tryz.zeroValue183
 t63 := Tryz.underlying335
 a63 := Tryz.isAgg335
 z63 := Tryz.sizeOf335
 v63 := Tryz.zeroValue335
 t64 := Tryz.underlying336
 a64 := Tryz.isAgg336
 z64 := Tryz.sizeOf336
 v64 := Tryz.zeroValue336 }
open Go.RowKit Go.Lib Go.Sort Go.Maps in
theorem Tryz.sortsZ (m : Nat) : AnyZ.SortsIn Tryz.prog Tryz.sortedZ_ren Fence.wide m :=
 ⟨fun blk off cap ss W hH hblk hsz => callsIn_wide.2 (AnyM.slices_Sort_string Tryz.sortZ blk off cap ss W hH hblk hsz), fun p cap W => callsIn_wide.2 (AnyM.slices_Sort_string_none Tryz.sortZ p cap W)⟩
open Go.RowKit Go.Lib Go.Sort Go.Maps in
theorem Tryz.maps_Keys_Counts (mb : Option Nat) (W : World) : CallsIn Fence.wide 5 Tryz.prog 218 #[.map mb] W fun e w' => e = .returned (.func (.func 268) #[] #[.pointer (some ⟨W.heap.size, 0, none⟩)]) ∧ w' = W.alloc (.cells #[.map mb] 154) :=
 AnyZ.keys_in Tryz.keysCounts Fence.wide 5 trivial rfl mb W
open Go.RowKit Go.Lib Go.Sort Go.Maps in
theorem Tryz.slices_Sorted_Counts {H : Type} (b nn : Nat) (D0 : DataW H) (R : Value → Option (DataW H × List MemPlace)) (w : World) (hown : w.ownsMap Tryz.prog 9 R b nn D0) (hmax : Maps.size D0 ≤ maxLen) (hbytes : Maps.size D0 * 16 ≤ 140737488355328) :
  CallsIn Fence.wide 5 Tryz.prog 217 #[.func (.func 268) #[] #[.pointer (some ⟨w.heap.size, 0, none⟩)]] (w.alloc (.cells #[.map (some b)] 154)) fun e w' => ∃ (v : Value) (ss : List (List UInt8)), e = .returned v ∧ ss.Perm (strKeys D0) ∧
   w'.ownsRow (w.alloc (.cells #[.map (some b)] 154)).heap.size 9 1 v ss.length ((ss.mergeSort (fun x y => decide (x ≤ y))).map encStr) ∧ (v = .slice none 0 0 ↔ ss = []) ∧ Below (w.alloc (.cells #[.map (some b)] 154)).heap.size (w.alloc (.cells #[.map (some b)] 154)) w' := by
 have hbl := hown.lt
 have hseq : SeqGives Fence.wide 2 Tryz.prog 268 #[.pointer (some ⟨w.heap.size, 0, none⟩)] encStr (fun ss => ss.Perm (strKeys D0)) (Maps.size D0) (w.alloc (.cells #[.map (some b)] 154)) :=
  AnyZ.keys_gives (ρ := Tryz.keysCounts_ren) { Tryz.keysCounts with } Fence.wide _ trivial rfl (by omega) w.heap.size b nn D0 _ (by simp) (by simp) (by
   obtain ⟨es, clock, hb, Ft, hs, hD⟩ := hown
   exact ⟨es, clock, (Below.heap_alloc _ _ b hbl).trans hb, Ft, hs, hD⟩)
 exact AnyZ.sorted_in Tryz.sortedZ Fence.wide 5 trivial trivial trivial trivial rfl (by omega) (Tryz.sortsZ _) (enters_of Tryz.func267 (by kernel_rfl) rfl) 268 #[.pointer (some ⟨w.heap.size, 0, none⟩)] trivial (enters_of Tryz.func268 (by kernel_rfl) rfl) _ _ hmax hbytes _ hseq
def Tryz.keysGiven_ren : Go.Shelf.Ren := ⟨fun | 7 => 24 | 10 => 62 | n => n, fun | 23 => 85 | 26 => 3 | 3 => 9 | 28 => 91 | 0 => 0 | 27 => 90 | 33 => 123 | 4 => 4 | n => n, fun | n => n⟩
theorem Tryz.keysGiven : Go.Proofs.SlLaysZI.n7 Tryz.prog Tryz.keysGiven_ren := {
 mixed := by kernel_rfl
 f7 := ⟨Tryz.f24.name, by decide, Tryz.func24.trans (congrArg some (by kernel_rfl))⟩
 f10 := ⟨Tryz.f62.name, by decide, Tryz.func62.trans (congrArg some (by kernel_rfl))⟩
 t0 := Tryz.underlying0
 a0 := Tryz.isAgg0
 z0 := Tryz.sizeOf0
 v0 := Tryz.zeroValue0
 t4 := Tryz.underlying4
 a4 := Tryz.isAgg4
 z4 := Tryz.sizeOf4
 v4 := Tryz.zeroValue4
 t23 := Tryz.underlying85
 a23 := Tryz.isAgg85
 z23 := Tryz.sizeOf85
 v23 := Tryz.zeroValue85
 t26 := Tryz.underlying3
 a26 := Tryz.isAgg3
 z26 := Tryz.sizeOf3
 v26 := Tryz.zeroValue3
 t27 := Tryz.underlying90
 a27 := Tryz.isAgg90
 z27 := Tryz.sizeOf90
 v27 := Tryz.zeroValue90
 t28 := Tryz.underlying91
 a28 := Tryz.isAgg91
 z28 := Tryz.sizeOf91
 v28 := Tryz.zeroValue91
 t33 := Tryz.underlying123
 a33 := Tryz.isAgg123
 z33 := Tryz.sizeOf123
 v33 := Tryz.zeroValue123 }
def Tryz.sortedZI_ren : Go.Shelf.Ren := ⟨fun | 6 => 22 | 8 => 59 | 9 => 60 | 11 => 162 | 13 => 164 | 12 => 163 | 23 => 229 | 24 => 230 | 14 => 220 | 15 => 221 | 16 => 222 | 17 => 223 | 18 => 224 | 19 => 225 | 20 => 226 | 21 => 227 | 22 => 228 | 25 => 269 | 26 => 270 | 27 => 271 | 28 => 272 | 29 => 273 | 30 => 274 | 31 => 295 | n => n, fun | 26 => 3 | 28 => 91 | 24 => 47 | 0 => 0 | 3 => 3 | 37 => 210 | 48 => 271 | 50 => 169 | 4 => 4 | 40 => 265 | 39 => 264 | 45 => 211 | 5 => 5 | 9 => 9 | 51 => 315 | 55 => 183 | 57 => 335 | 58 => 336 | 33 => 123 | n => n, fun | n => n⟩
theorem Tryz.sortedZI : Go.Proofs.SlLaysZI.n6 Tryz.prog Tryz.sortedZI_ren := {
 mixed := by kernel_rfl
 f6 := ⟨Tryz.f22.name, by decide, Tryz.func22.trans (congrArg some (by kernel_rfl))⟩
 f8 := ⟨Tryz.f59.name, by decide, Tryz.func59.trans (congrArg some (by kernel_rfl))⟩
 f11 := ⟨Tryz.f162.name, by decide, Tryz.func162.trans (congrArg some (by kernel_rfl))⟩
 t0 := Tryz.underlying0
 a0 := Tryz.isAgg0
 z0 := Tryz.sizeOf0
 v0 := Tryz.zeroValue0
 t24 := Tryz.underlying47
 a24 := Tryz.isAgg47
 z24 := Tryz.sizeOf47
 v24 := Tryz.zeroValue47
 t26 := Tryz.underlying3
 a26 := Tryz.isAgg3
 z26 := Tryz.sizeOf3
 v26 := Tryz.zeroValue3
 t28 := Tryz.underlying91
 a28 := Tryz.isAgg91
 z28 := Tryz.sizeOf91
 v28 := Tryz.zeroValue91
 i26 := by kernel_rfl }
def Tryz.sortZI_ren : Go.Shelf.Ren := ⟨fun | 5 => 60 | 8 => 164 | 7 => 163 | 19 => 229 | 20 => 230 | 10 => 220 | 11 => 221 | 12 => 222 | 13 => 223 | 14 => 224 | 15 => 225 | 16 => 226 | 17 => 227 | 18 => 228 | 30 => 269 | 31 => 270 | 32 => 271 | 33 => 272 | 34 => 273 | 35 => 274 | 40 => 295 | n => n, fun | 23 => 47 | 25 => 3 | 3 => 3 | 32 => 210 | 22 => 47 | 0 => 0 | 44 => 271 | 46 => 169 | 4 => 4 | 36 => 265 | 35 => 264 | 41 => 211 | 5 => 5 | 9 => 9 | 53 => 315 | 57 => 183 | 63 => 335 | 64 => 336 | n => n, fun | n => n⟩
theorem Tryz.sortZI : Go.Proofs.SlLaysM.n5 Tryz.prog Tryz.sortZI_ren := {
 mixed := by kernel_rfl
 f5 := ⟨Tryz.f60.name, by decide, Tryz.func60.trans (congrArg some (by kernel_rfl))⟩
 f7 := ⟨Tryz.f163.name, by decide, Tryz.func163.trans (congrArg some (by kernel_rfl))⟩
 f8 := Tryz.func164.trans (congrArg some (by kernel_rfl))
 f10 := ⟨Tryz.f220.name, by decide, Tryz.func220.trans (congrArg some (by kernel_rfl))⟩
 f11 := ⟨Tryz.f221.name, by decide, Tryz.func221.trans (congrArg some (by kernel_rfl))⟩
 f12 := ⟨Tryz.f222.name, by decide, Tryz.func222.trans (congrArg some (by kernel_rfl))⟩
 f13 := ⟨Tryz.f223.name, by decide, Tryz.func223.trans (congrArg some (by kernel_rfl))⟩
 f14 := ⟨Tryz.f224.name, by decide, Tryz.func224.trans (congrArg some (by kernel_rfl))⟩
 f15 := ⟨Tryz.f225.name, by decide, Tryz.func225.trans (congrArg some (by kernel_rfl))⟩
 f16 := ⟨Tryz.f226.name, by decide, Tryz.func226.trans (congrArg some (by kernel_rfl))⟩
 f17 := ⟨Tryz.f227.name, by decide, Tryz.func227.trans (congrArg some (by kernel_rfl))⟩
 f18 := ⟨Tryz.f228.name, by decide, Tryz.func228.trans (congrArg some (by kernel_rfl))⟩
 f19 := Tryz.func229.trans (congrArg some (by kernel_rfl))
 f20 := Tryz.func230.trans (congrArg some (by kernel_rfl))
 f30 := ⟨Tryz.f269.name, by decide, Tryz.func269.trans (congrArg some (by kernel_rfl))⟩
 f31 := Tryz.func270.trans (congrArg some (by kernel_rfl))
 f32 := Tryz.func271.trans (congrArg some (by kernel_rfl))
 f33 := ⟨Tryz.f272.name, by decide, Tryz.func272.trans (congrArg some (by kernel_rfl))⟩
 f34 := ⟨Tryz.f273.name, by decide, Tryz.func273.trans (congrArg some (by kernel_rfl))⟩
 f35 := ⟨Tryz.f274.name, by decide, Tryz.func274.trans (congrArg some (by kernel_rfl))⟩
 f40 := ⟨Tryz.f295.name, by decide, Tryz.func295.trans (congrArg some (by kernel_rfl))⟩
 t0 := Tryz.underlying0
 a0 := Tryz.isAgg0
 z0 := Tryz.sizeOf0
 v0 := Tryz.zeroValue0
 t3 := Tryz.underlying3
 a3 := Tryz.isAgg3
 z3 := Tryz.sizeOf3
 v3 := Tryz.zeroValue3
 t4 := Tryz.underlying4
 a4 := Tryz.isAgg4
 z4 := Tryz.sizeOf4
 v4 := Tryz.zeroValue4
 t5 := Tryz.underlying5
 a5 := Tryz.isAgg5
 z5 := Tryz.sizeOf5
 v5 := Tryz.zeroValue5
 t9 := Tryz.underlying9
 a9 := Tryz.isAgg9
 z9 := Tryz.sizeOf9
 v9 := Tryz.zeroValue9
 t22 := Tryz.underlying47
 a22 := Tryz.isAgg47
 z22 := Tryz.sizeOf47
 v22 := Tryz.zeroValue47
 t23 := Tryz.underlying47
 a23 := Tryz.isAgg47
 z23 := Tryz.sizeOf47
 v23 := Tryz.zeroValue47
 t25 := Tryz.underlying3
 a25 := Tryz.isAgg3
 z25 := Tryz.sizeOf3
 v25 := Tryz.zeroValue3
 t32 := Tryz.underlying210
 a32 := Tryz.isAgg210
 z32 := Tryz.sizeOf210
 v32 := Tryz.zeroValue210
 t35 := Tryz.underlying264
 a35 := Tryz.isAgg264
 z35 := Tryz.sizeOf264
 v35 := Tryz.zeroValue264
 t36 := Tryz.underlying265
 a36 := Tryz.isAgg265
 z36 := Tryz.sizeOf265
 v36 := Tryz.zeroValue265
 t41 := Tryz.underlying211
 a41 := Tryz.isAgg211
 z41 := Tryz.sizeOf211
 v41 := Tryz.zeroValue211
 t44 := Tryz.underlying271
 a44 := Tryz.isAgg271
 z44 := Tryz.sizeOf271
 v44 := Tryz.zeroValue271
 t46 := Tryz.underlying169
 a46 := Tryz.isAgg169
 z46 := Tryz.sizeOf169
 v46 := Tryz.zeroValue169
 t53 := Tryz.underlying315
 a53 := Tryz.isAgg315
 z53 := Tryz.sizeOf315
 v53 := Tryz.zeroValue315
 t57 := Tryz.underlying183
 a57 := Tryz.isAgg183
 z57 := Tryz.sizeOf183
 v57 := Tryz.zeroValue183
 t63 := Tryz.underlying335
 a63 := Tryz.isAgg335
 z63 := Tryz.sizeOf335
 v63 := Tryz.zeroValue335
 t64 := Tryz.underlying336
 a64 := Tryz.isAgg336
 z64 := Tryz.sizeOf336
 v64 := Tryz.zeroValue336 }
open Go.RowKit Go.Lib Go.Sort Go.Maps in
theorem Tryz.sortsZI (m : Nat) : AnyZI.SortsIn Tryz.prog Tryz.sortedZI_ren Fence.wide m :=
 ⟨fun blk off cap ss W hH hblk hsz => callsIn_wide.2 (AnyM.slices_Sort_int Tryz.sortZI blk off cap ss W hH hblk hsz), fun p cap W => callsIn_wide.2 (AnyM.slices_Sort_int_none Tryz.sortZI p cap W)⟩
open Go.RowKit Go.Lib Go.Sort Go.Maps in
theorem Tryz.maps_Keys_Given (mb : Option Nat) (W : World) : CallsIn Fence.wide 5 Tryz.prog 24 #[.map mb] W fun e w' => e = .returned (.func (.func 62) #[] #[.pointer (some ⟨W.heap.size, 0, none⟩)]) ∧ w' = W.alloc (.cells #[.map mb] 85) :=
 AnyZI.keys_in Tryz.keysGiven Fence.wide 5 trivial rfl mb W
def Tryz.keysTaken_ren : Go.Shelf.Ren := ⟨fun | 7 => 23 | 10 => 61 | n => n, fun | 23 => 86 | 26 => 3 | 3 => 4 | 28 => 91 | 0 => 0 | 27 => 90 | 33 => 123 | 4 => 4 | n => n, fun | n => n⟩
theorem Tryz.keysTaken : Go.Proofs.SlLaysZI.n7 Tryz.prog Tryz.keysTaken_ren := {
 mixed := by kernel_rfl
 f7 := ⟨Tryz.f23.name, by decide, Tryz.func23.trans (congrArg some (by kernel_rfl))⟩
 f10 := ⟨Tryz.f61.name, by decide, Tryz.func61.trans (congrArg some (by kernel_rfl))⟩
 t0 := Tryz.underlying0
 a0 := Tryz.isAgg0
 z0 := Tryz.sizeOf0
 v0 := Tryz.zeroValue0
 t4 := Tryz.underlying4
 a4 := Tryz.isAgg4
 z4 := Tryz.sizeOf4
 v4 := Tryz.zeroValue4
 t23 := Tryz.underlying86
 a23 := Tryz.isAgg86
 z23 := Tryz.sizeOf86
 v23 := Tryz.zeroValue86
 t26 := Tryz.underlying3
 a26 := Tryz.isAgg3
 z26 := Tryz.sizeOf3
 v26 := Tryz.zeroValue3
 t27 := Tryz.underlying90
 a27 := Tryz.isAgg90
 z27 := Tryz.sizeOf90
 v27 := Tryz.zeroValue90
 t28 := Tryz.underlying91
 a28 := Tryz.isAgg91
 z28 := Tryz.sizeOf91
 v28 := Tryz.zeroValue91
 t33 := Tryz.underlying123
 a33 := Tryz.isAgg123
 z33 := Tryz.sizeOf123
 v33 := Tryz.zeroValue123 }
open Go.RowKit Go.Lib Go.Sort Go.Maps in
theorem Tryz.maps_Keys_Taken (mb : Option Nat) (W : World) : CallsIn Fence.wide 5 Tryz.prog 23 #[.map mb] W fun e w' => e = .returned (.func (.func 61) #[] #[.pointer (some ⟨W.heap.size, 0, none⟩)]) ∧ w' = W.alloc (.cells #[.map mb] 86) :=
 AnyZI.keys_in Tryz.keysTaken Fence.wide 5 trivial rfl mb W
def Tryz.lSortFunc_ren : Go.Shelf.Ren := ⟨fun | 6 => 91 | 15 => 164 | 14 => 185 | 28 => 229 | 29 => 230 | 20 => 241 | 21 => 242 | 22 => 243 | 23 => 244 | 24 => 245 | 25 => 246 | 26 => 247 | 27 => 248 | 46 => 279 | 47 => 270 | 48 => 271 | 49 => 280 | 50 => 281 | 57 => 300 | n => n, fun | 22 => 42 | 24 => 32 | 25 => 165 | 3 => 3 | 39 => 210 | 0 => 0 | 53 => 271 | 55 => 169 | 4 => 4 | 46 => 265 | 45 => 264 | 50 => 211 | 5 => 5 | 9 => 9 | 66 => 315 | 70 => 183 | 76 => 335 | 77 => 336 | n => n, fun | n => n⟩
theorem Tryz.lSortFunc : Go.Proofs.SlLaysF0.n6 Tryz.prog Tryz.lSortFunc_ren := {
 mixed := by kernel_rfl
 f6 := ⟨Tryz.f91.name, by decide, Tryz.func91.trans (congrArg some (by kernel_rfl))⟩
 f14 := ⟨Tryz.f185.name, by decide, Tryz.func185.trans (congrArg some (by kernel_rfl))⟩
 f15 := Tryz.func164.trans (congrArg some (by kernel_rfl))
 f20 := ⟨Tryz.f241.name, by decide, Tryz.func241.trans (congrArg some (by kernel_rfl))⟩
 f21 := ⟨Tryz.f242.name, by decide, Tryz.func242.trans (congrArg some (by kernel_rfl))⟩
 f22 := ⟨Tryz.f243.name, by decide, Tryz.func243.trans (congrArg some (by kernel_rfl))⟩
 f23 := ⟨Tryz.f244.name, by decide, Tryz.func244.trans (congrArg some (by kernel_rfl))⟩
 f24 := ⟨Tryz.f245.name, by decide, Tryz.func245.trans (congrArg some (by kernel_rfl))⟩
 f25 := ⟨Tryz.f246.name, by decide, Tryz.func246.trans (congrArg some (by kernel_rfl))⟩
 f26 := ⟨Tryz.f247.name, by decide, Tryz.func247.trans (congrArg some (by kernel_rfl))⟩
 f27 := ⟨Tryz.f248.name, by decide, Tryz.func248.trans (congrArg some (by kernel_rfl))⟩
 f28 := Tryz.func229.trans (congrArg some (by kernel_rfl))
 f29 := Tryz.func230.trans (congrArg some (by kernel_rfl))
 f46 := ⟨Tryz.f279.name, by decide, Tryz.func279.trans (congrArg some (by kernel_rfl))⟩
 f47 := Tryz.func270.trans (congrArg some (by kernel_rfl))
 f48 := Tryz.func271.trans (congrArg some (by kernel_rfl))
 f49 := ⟨Tryz.f280.name, by decide, Tryz.func280.trans (congrArg some (by kernel_rfl))⟩
 f50 := ⟨Tryz.f281.name, by decide, Tryz.func281.trans (congrArg some (by kernel_rfl))⟩
 f57 := ⟨Tryz.f300.name, by decide, Tryz.func300.trans (congrArg some (by kernel_rfl))⟩
 t0 := Tryz.underlying0
 a0 := Tryz.isAgg0
 z0 := Tryz.sizeOf0
 v0 := Tryz.zeroValue0
 t3 := Tryz.underlying3
 a3 := Tryz.isAgg3
 z3 := Tryz.sizeOf3
 v3 := Tryz.zeroValue3
 t4 := Tryz.underlying4
 a4 := Tryz.isAgg4
 z4 := Tryz.sizeOf4
 v4 := Tryz.zeroValue4
 t5 := Tryz.underlying5
 a5 := Tryz.isAgg5
 z5 := Tryz.sizeOf5
 v5 := Tryz.zeroValue5
 t9 := Tryz.underlying9
 a9 := Tryz.isAgg9
 z9 := Tryz.sizeOf9
 v9 := Tryz.zeroValue9
 t22 := Tryz.underlying42
 a22 := Tryz.isAgg42
 z22 := Tryz.sizeOf42
 v22 := Tryz.zeroValue42
 t25 := Tryz.underlying165
 a25 := Tryz.isAgg165
 z25 := Tryz.sizeOf165
 v25 := Tryz.zeroValue165
 t39 := Tryz.underlying210
 a39 := Tryz.isAgg210
 z39 := Tryz.sizeOf210
 v39 := Tryz.zeroValue210
 t45 := Tryz.underlying264
 a45 := Tryz.isAgg264
 z45 := Tryz.sizeOf264
 v45 := Tryz.zeroValue264
 t46 := Tryz.underlying265
 a46 := Tryz.isAgg265
 z46 := Tryz.sizeOf265
 v46 := Tryz.zeroValue265
 t50 := Tryz.underlying211
 a50 := Tryz.isAgg211
 z50 := Tryz.sizeOf211
 v50 := Tryz.zeroValue211
 t53 := Tryz.underlying271
 a53 := Tryz.isAgg271
 z53 := Tryz.sizeOf271
 v53 := Tryz.zeroValue271
 t55 := Tryz.underlying169
 a55 := Tryz.isAgg169
 z55 := Tryz.sizeOf169
 v55 := Tryz.zeroValue169
 t66 := Tryz.underlying315
 a66 := Tryz.isAgg315
 z66 := Tryz.sizeOf315
 v66 := Tryz.zeroValue315
 t70 := Tryz.underlying183
 a70 := Tryz.isAgg183
 z70 := Tryz.sizeOf183
 v70 := Tryz.zeroValue183
 t76 := Tryz.underlying335
 a76 := Tryz.isAgg335
 z76 := Tryz.sizeOf335
 v76 := Tryz.zeroValue335
 t77 := Tryz.underlying336
 a77 := Tryz.isAgg336
 z77 := Tryz.sizeOf336
 v77 := Tryz.zeroValue336 }
open Go.RowKit Go.Lib Go.Sort Go.Maps in
theorem Tryz.slices_SortFunc_GT {α : Type} [Inhabited α] (enc : α → List Value) (hk : ∀ x, (enc x).length = 2) (h1 : ∀ x, ∀ v ∈ enc x, v.oneCell' = true) (cf : α → α → Int) (hO : SWO (ltOf cf)) (g : Nat) (cb : Array Value) (blk off cap : Nat) (d : Array α) (w : World) (eg : ∀ args w, (callFunc g args).run Tryz.prog w = .ok (.enter g args) w) (hcmp : CmpLays Tryz.prog g cb enc 2 cf blk off d.size w) (hH : HoldsK enc 2 w blk off d) (hblk : blk < w.heap.size) (hsz : d.size < 4611686018427387904) (hT : ∀ x y, (ltOf cf) x y = false → (ltOf cf) y x = false → x = y) :
  Calls Tryz.prog 91 #[.slice (some ⟨blk, off, none⟩) d.size cap, .func (.func g) #[] cb] w fun e w' => e = .returned (.tuple #[]) ∧ ∃ n os, w' = sortWorldK enc 2 w blk off n (d.toList.mergeSort fun x y => !(ltOf cf) y x).toArray os := AnyQ.slices_SortFunc_total Tryz.lSortFunc 2 Tryz.isAgg32 Tryz.sizeOf32 enc hk h1 cf hO g cb blk off cap d w eg hcmp hH hblk hsz hT
open Go.RowKit Go.Lib Go.Sort Go.Maps in
theorem Tryz.slices_SortFunc_none (p : Option Addr) (cap : Nat) (fv : Value) (w : World) :
  Calls Tryz.prog 91 #[.slice p 0 cap, fv] w fun e w' => e = .returned (.tuple #[]) ∧ w' = w := AnyF.slices_SortFunc_none Tryz.lSortFunc p cap fv w
end Go.Proofs

namespace Go.Proofs.YtgnjnpddehdmcaaGreatDoor
open Go.RowKit
variable {F : Fence} {n : Nat} {P : Program}

def SeqBox {α : Type} (F : Fence) (n : Nat) (P : Program) (g : Nat) (lb : Array Value) (encs : α → Array Value) (bn : Nat) (xs : List α) (w : World) : Prop :=
 ∀ (l : Nat) (J : List α → World → Prop) (W : World), W.heap[bn]? = w.heap[bn]? → (∀ s A v, J s A → J s (A.setCell ⟨bn, 0, none⟩ v)) →
  (∀ pre x rest W1, xs = pre ++ x :: rest → J pre W1 → YieldAt F (n - 1) P l (encs x) W1 fun e W' => e = .returned (.bool true) ∧ J (pre ++ [x]) W' ∧ W'.heap[bn]? = W1.heap[bn]?) →
  J [] W → CallsIn F n P g (#[.func (.yield l) #[] #[]] ++ lb) W fun e W' => (∃ v, e = .returned v) ∧ J xs W'

def boxPost {α : Type} (B bn : Nat) (I : List α → World → Prop) (xs : List α) (W : World) : Exit → Act → World → Prop
 | .normal, _, W' => KeepsFrom B W W' ∧ W'.heap[bn]? = W.heap[bn]? ∧ I xs W'
 | _, _, _ => False

theorem wpIn_rangeBox {α : Type} {g : Operand} {ps : Array Tmp} {assign body : Code} {Q : Exit → Act → World → Prop} {a : Act} {w : World}
    (hro : F.round = none) (h1 : 1 ≤ n) {gf : Nat} {lb : Array Value} (hg : a.eval g = .func (.func gf) #[] lb) (hFg : F.fn gf) (eg : ∀ args w, (callFunc gf args).run P w = .ok (.enter gf args) w)
    {encs : α → Array Value} {bn : Nat} {xs : List α} (hseq : SeqBox F (n - 1) P gf lb encs bn xs w) (hbn : bn < w.heap.size) (hps : ∀ x, (encs x).size = ps.size)
    (I : List α → World → Prop) (hI : OwnFrom w.heap.size I) (hIb : ∀ s A v, I s A → I s (A.setCell ⟨bn, 0, none⟩ v)) (h0 : I [] w) (a₁ : α → Act)
    (hassign : ∀ (l : Nat) (x : α) (W : World) (K : Act → World → Prop), K (a₁ x) W →
      assign.wpIn (F.inRound l) (n - 1 - 1) P (Exit.then K (fun _ _ _ => False)) { tmps := (ps.zip (encs x)).foldl (fun t (p, v) => t.setIfInBounds p v) a.tmps, defers := [] } W)
    (hbody : ∀ (l : Nat) (pre : List α) (x : α) (rest : List α) (W : World), xs = pre ++ x :: rest → I pre W → body.wpIn (F.inRound l) (n - 1 - 1) P (boxPost w.heap.size bn I (pre ++ [x]) W) (a₁ x) W)
    (hdone : ∀ (D : Nat) (W : World), w.heap.size ≤ D → I xs W → W.heap[D]? = some (.deferred (some [])) → Q .normal { a with defers := { target := .collected D, args := #[] } :: a.defers } W) :
    (Code.rangeFunc g ps assign body).wpIn F n P Q a w := by
  refine wpIn_rangeFunc ?_
  intro fn hfn
  rw [hro]
  obtain ⟨rec, hrec⟩ : ∃ rec : LoopState → Option Code → Loop, rec = fun st pe => { state := st, pending := pe, fn, tmps := a.tmps, params := ps, assign, body, defers := w.heap.size } := ⟨_, rfl⟩
  obtain ⟨V, hV⟩ : ∃ V, (w.alloc (.deferred (some []))).alloc (.loop (rec .ready none)) = V := ⟨_, rfl⟩
  have vL : V.heap[w.heap.size + 1]? = some (.loop (rec .ready none)) := by
    have := World.alloc_heap_new (w.alloc (.deferred (some []))) (.loop (rec .ready none))
    rw [World.size_alloc] at this
    rw [← hV]; exact this
  have vD : V.heap[w.heap.size]? = some (.deferred (some [])) := by
    rw [← hV]; exact (Below.heap_alloc _ _ _ (by simp)).trans (World.alloc_heap_new w _)
  have vI : I [] V := by rw [← hV]; exact hI.alloc _ (hI.alloc _ h0)
  have vb : V.heap[bn]? = w.heap[bn]? := by
    rw [← hV]; exact (Below.heap_alloc _ _ _ (by simp; omega)).trans (Below.heap_alloc _ _ _ hbn)
  refine ⟨w.heap.size + 1, [{ target := .collected w.heap.size, args := #[] }], V, { target := .fn (.func gf) lb, args := #[.func (.yield (w.heap.size + 1)) #[] #[]] }, V, gf,
    #[.func (.yield (w.heap.size + 1)) #[] #[]] ++ lb, V, ?_, ?_, ?_, ?_, fun _ => h1, ?_⟩
  · rw [← hV, hrec]; exact run_enterLoop_outer _ _ _ _ _
  · simp only [resolve, hg]
    simp [go_sem]
  · intro f' hf'; simp [Target.leads] at hf'; subst hf'; exact hFg
  · simp [invoke, go_sem, eg]
  refine (hseq (w.heap.size + 1) (fun pre W => I pre W ∧ W.heap[w.heap.size + 1]? = some (.loop (rec .ready none)) ∧ W.heap[w.heap.size]? = some (.deferred (some []))) V vb ?_ ?_ ⟨vI, vL, vD⟩).mono ?_
  · rintro s A v ⟨i1, i2, i3⟩
    exact ⟨hIb s A v i1, (Below.heap_setCell _ _ _ _ (by dsimp only; omega)).trans i2, (Below.heap_setCell _ _ _ _ (by dsimp only; omega)).trans i3⟩
  · rintro pre x rest W hxs ⟨hi, hl, hk⟩
    have hlt : w.heap.size + 1 < W.heap.size := (Array.getElem?_eq_some_iff.1 hl).1
    have hy := run_yield (P := P) (args := encs x) hl (by rw [hrec]; exact hps x)
    rw [hrec] at hy
    refine ⟨fn, _, assign, body, hy, roundIn_of_wpIn hfn (hassign _ x W _ ⟨_, run_beginRound hl (by rw [hrec]), ?_⟩)⟩
    obtain ⟨U, hU⟩ : ∃ U, W.putObj (w.heap.size + 1) (.loop { rec .ready none with state := .busy }) = U := ⟨_, rfl⟩
    have uL : U.heap[w.heap.size + 1]? = some (.loop { rec .ready none with state := .busy }) := by rw [← hU]; exact World.putObj_heap_same hlt
    have uD : U.heap[w.heap.size]? = some (.deferred (some [])) := by rw [← hU]; exact (World.putObj_heap_other (by omega)).trans hk
    have ub : U.heap[bn]? = W.heap[bn]? := by rw [← hU]; exact World.putObj_heap_other (by omega)
    have uI : I pre U := by rw [← hU]; exact hI.putObj _ hi (by omega) hl rfl
    rw [show W.putObj (w.heap.size + 1) (.loop { rec .ready none with state := .busy }) = U from hU]
    refine wpIn_mono (hbody _ pre x rest _ hxs uI) ?_
    rintro e a3 W3 hp
    cases e with
    | normal =>
      obtain ⟨hk3, hb3, hi3⟩ := hp
      have hl3 := hk3.same _ _ (by omega) uL rfl
      have hr := run_endRound (P := P) none hl3
      rw [hrec] at hr
      refine ⟨_, _, hr, rfl, ⟨hI.putObj _ hi3 (by omega) hl3 rfl, ?_, ?_⟩, ?_⟩
      · rw [hrec]; exact World.putObj_heap_same (Array.getElem?_eq_some_iff.1 hl3).1
      · exact (World.putObj_heap_other (by omega)).trans (hk3.same _ _ (Nat.le_refl _) uD rfl)
      · exact (World.putObj_heap_other (by omega)).trans (hb3.trans ub)
    | ret => exact hp.elim
    | exit id => exact hp.elim
    | goto t => exact hp.elim
    | panic ch => exact hp.elim
    | outgrown => exact hp.elim
  · rintro e W2 ⟨⟨v, rfl⟩, hi, hl, hk⟩
    have hr := run_endLoop (P := P) hl (by rw [hrec]; simp)
    rw [hrec] at hr
    exact ⟨none, _, hr, hdone _ _ (Nat.le_refl _) (hI.putObj _ hi (by omega) hl rfl) ((World.putObj_heap_other (by omega)).trans hk)⟩
end Go.Proofs.YtgnjnpddehdmcaaGreatDoor
