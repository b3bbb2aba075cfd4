/- A map that the call has made, told by what it says of each key; over any program. -/
import Derived.Test.YtkdfhackpmdgfaaGreatDoorSl
import Derived.Test.YtkdfhackpmdgfaaGreatDoorChgW
import Derived.Maps.OwnSet
namespace Go.Proofs.YtkdfhackpmdgfaaGreatDoor
open Go Go.RowKit
open Go.Maps (Keyed)
set_option linter.unusedSimpArgs false
set_option linter.unusedVariables false
set_option linter.unusedSectionVars false
/-- Elements as they are. -/
def heldE (v : Value) : Option (DataW Value × List MemPlace) := some (.held v, [])
/-- Block b is a map of n entries; f: what it says of a key. -/
def MapOf (P : Program) (k : TypeId) (w : World) (b n : Nat) (f : Value → Option Value) : Prop :=
  ∃ D, w.ownsMap P k heldE b n D ∧ Maps.size D = n ∧ ∀ key kl, keyOf P k key = some kl → Maps.has D kl = (f key).isSome ∧ ∀ v, f key = some v → ∀ z, D.atKey kl z = .held v
section
variable {P : Program} {k : TypeId} {w w' : World} {b n : Nat} {f : Value → Option Value}
theorem MapOf.made (w : World) (P : Program) (k : TypeId) : MapOf P k (w.alloc (.map #[] 0)) w.heap.size 0 (fun _ => none) :=
  ⟨_, World.ownsMap_made w P k heldE, rfl, fun key kl _ => ⟨rfl, fun v h => by cases h⟩⟩
theorem MapOf.lt (h : MapOf P k w b n f) : b < w.heap.size := by obtain ⟨D, h1, _⟩ := h; exact h1.lt
theorem MapOf.keep (h : MapOf P k w b n f) (hk : w'.heap[b]? = w.heap[b]?) : MapOf P k w' b n f := by
  obtain ⟨D, ⟨es, clock, hb, r⟩, r2⟩ := h
  exact ⟨D, ⟨es, clock, hk.trans hb, r⟩, r2⟩
theorem MapOf.below (h : MapOf P k w b n f) (hb : Below w.heap.size w w') : MapOf P k w' b n f := h.keep (hb.block b h.lt)
theorem MapOf.congr {f' : Value → Option Value} (h : MapOf P k w b n f) (e : ∀ key kl, keyOf P k key = some kl → f' key = f key) : MapOf P k w b n f' := by
  obtain ⟨D, h1, h2, h3⟩ := h
  exact ⟨D, h1, h2, fun key kl hk => by rw [e key kl hk]; exact h3 key kl hk⟩
theorem MapOf.look_ok {t e : TypeId} (h : MapOf P k w b n f) (K : Keyed P k) (ht : P.underlying t = some (.map k e)) {z : Value} (hz : (zeroValue e).run P w = .ok z w) {key : Value} {kl : Lit} (hkey : keyOf P k key = some kl) :
    ∃ v, (Instr.lookup t (.map (some b)) key true).run P w = .ok (.tuple #[v, .bool (f key).isSome]) w ∧ (∀ x, f key = some x → v = x) ∧ (f key = none → v = z) := by
  obtain ⟨D, h1, h2, h3⟩ := h
  obtain ⟨v, ps, hr, hv⟩ := h1.look_ok K ht hz (zd := .held z) (zp := []) rfl hkey
  obtain ⟨a, c⟩ := h3 key kl hkey
  refine ⟨v, by rw [← a]; exact hr, fun x hx => ?_, fun hx => ?_⟩
  · rw [c x hx] at hv
    simp only [heldE, Option.some.injEq, Prod.mk.injEq, DataW.held.injEq] at hv
    exact hv.1
  · rw [Maps.atKey_of_not_has (by rw [a, hx]; rfl)] at hv
    simp only [heldE, Option.some.injEq, Prod.mk.injEq, DataW.held.injEq] at hv
    exact hv.1
theorem MapOf.look {t e : TypeId} (h : MapOf P k w b n f) (K : Keyed P k) (ht : P.underlying t = some (.map k e)) {z : Value} (hz : (zeroValue e).run P w = .ok z w) {key : Value} {kl : Lit} (hkey : keyOf P k key = some kl) {x : Value} (hx : f key = some x) :
    (Instr.lookup t (.map (some b)) key false).run P w = .ok x w := by
  obtain ⟨D, h1, h2, h3⟩ := h
  obtain ⟨v, ps, hr, hv⟩ := h1.lookup K ht hz (zd := .held z) (zp := []) rfl hkey
  obtain ⟨a, c⟩ := h3 key kl hkey
  rw [c x hx] at hv
  simp only [heldE, Option.some.injEq, Prod.mk.injEq, DataW.held.injEq] at hv
  rw [hr, hv.1]
theorem MapOf.len {t e : TypeId} (h : MapOf P k w b n f) (ht : P.underlying t = some (.map k e)) (ty : TypeId) : (Builtin.len_ #[t] ty #[.map (some b)]).run P w = .ok (.int .i64 (n : Int)) w := by
  obtain ⟨D, h1, h2, h3⟩ := h
  rw [h1.len ht ty, h2]
theorem MapOf.store {t e : TypeId} (h : MapOf P k w b n f) (K : Keyed P k) (ht : P.underlying t = some (.map k e)) (hn : n < maxLen) {key val : Value} {kl : Lit} (hkey : keyOf P k key = some kl) (hnew : f key = none)
    {f' : Value → Option Value} (hf1 : f' key = some val) (hf2 : ∀ x, x ≠ key → f' x = f x) :
    ∃ w', (Instr.mapUpdate t (.map (some b)) key val).run P w = .ok () w' ∧ MapOf P k w' b (n + 1) f' ∧ w.mapTurned w' b := by
  obtain ⟨D, h1, h2, h3⟩ := h
  obtain ⟨w', hr, ho, hm⟩ := h1.store K ht hn (val := val) (d := .held val) (ps := []) hkey rfl
  refine ⟨w', hr, ⟨_, ho, ?_, fun key' kl' hk' => ?_⟩, hm⟩
  · rw [Maps.size_put (h1.tidy K), (h3 key kl hkey).1, hnew, h2]; rfl
  · by_cases e : key' = key
    · subst e
      obtain rfl : kl' = kl := Option.some.inj (hk'.symm.trans hkey)
      rw [hf1]
      exact ⟨Maps.has_put_same h1.isMap (K.key hkey) _, fun v hv z => by cases hv; exact Maps.atKey_put_same h1.isMap (K.key hkey) _ z⟩
    · have hne : kl' ≠ kl := fun q => e (K.inj (q ▸ hk') hkey)
      rw [hf2 key' e]
      obtain ⟨a, c⟩ := h3 key' kl' hk'
      exact ⟨by rw [Maps.has_put_other hne, a], fun v hv z => by rw [Maps.atKey_put_other hne]; exact c v hv z⟩
theorem turned_chg (h : w.mapTurned w' b) : Chg (fun k => k = b) w w' := Chg.of_grown h.grown fun k e => (Option.some.inj e).symm
end
end Go.Proofs.YtkdfhackpmdgfaaGreatDoor
