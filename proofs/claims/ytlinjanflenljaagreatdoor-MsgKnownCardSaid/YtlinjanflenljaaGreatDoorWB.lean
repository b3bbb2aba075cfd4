/- Slices of structs of one-cell fields (any number of them), over any program: what a slice reads as; append; parts of it. No program in sight. -/
import Derived.Test.YtlinjanflenljaaGreatDoorPush
import Derived.Maps.AppendAt
import Derived.Test.YtlinjanflenljaaGreatDoorWrite
import Derived.Test.YtlinjanflenljaaGreatDoorBLib
import Derived.Test.YtlinjanflenljaaGreatDoorMsgP
import Derived.Laws.EntriesVeiled
namespace Go.Proofs.YtlinjanflenljaaGreatDoor
open Go.RowKit
set_option linter.unusedSimpArgs false
set_option linter.unusedVariables false
theorem own_shape {W : World} {base n : Nat} {e : TypeId} {size : Nat} {v : Value} {xs : List Value} (h : W.ownsRow base e size v n xs) : ∃ A' c', v = .slice A' n c' ∧ n ≤ c' := by
  rcases h.2 with ⟨e, e2⟩ | ⟨k, cp, cur, e, _, _, hle, _⟩
  · exact ⟨none, 0, by rw [e, e2], by omega⟩
  · exact ⟨_, _, e, hle⟩
/-- What the table says of an element's type. -/
structure Elem (P : Program) (ty e : TypeId) (k bytes : Nat) : Prop where
  und : P.underlying ty = some (.slice e)
  info : ∃ i z, P.info? e = some i ∧ i.zero = some z ∧ i.size = k ∧ i.bytes = bytes ∧ z.cells.size = k
  pos : 0 < k
theorem elem_of {P : Program} {ty e : TypeId} {k bytes : Nat} {z : Value} (hu : P.underlying ty = some (.slice e)) (hi : (P.info? e).map (fun i => (i.zero, i.size, i.bytes)) = some (some z, k, bytes)) (hz : z.cells.size = k) (hk : 0 < k) : Elem P ty e k bytes := by
  obtain ⟨i, h1, h2⟩ := Option.map_eq_some_iff.1 hi
  simp only [Prod.mk.injEq] at h2
  exact ⟨hu, ⟨i, z, h1, h2.1, h2.2.1, h2.2.2, hz⟩, hk⟩
section
variable {α : Type} (enc : α → List Value) (k : Nat)
/-- A slice reads as a list. -/
def SL (w : World) (A : Option Addr) (n : Nat) (l : List α) : Prop :=
  l.length = n ∧ (0 < n → ∃ b o, A = some ⟨b, o, none⟩ ∧ b < w.heap.size ∧ ∀ (i : Nat) (x : α), l[i]? = some x → ∀ (j : Nat) (u : Value), (enc x)[j]? = some u → w.cell? ⟨b, o + i * k + j, none⟩ = some u)
def flat (l : List α) : List Value := l.flatMap enc
end
section
variable {α : Type} {enc : α → List Value} {k : Nat}
theorem flat_length (hk : ∀ x, (enc x).length = k) : ∀ l : List α, (flat enc l).length = l.length * k
  | [] => by simp [flat]
  | x :: r => by
    have := flat_length hk r
    simp only [flat, List.flatMap_cons, List.length_append, hk, List.length_cons] at this ⊢
    rw [this, Nat.add_mul]; omega
theorem flat_get (hk : ∀ x, (enc x).length = k) : ∀ (l : List α) (i : Nat) (x : α) (j : Nat), l[i]? = some x → j < k → (flat enc l)[i * k + j]? = (enc x)[j]?
  | [], i, x, j, h, _ => by simp at h
  | y :: r, 0, x, j, h, hj => by
    simp only [List.getElem?_cons_zero, Option.some.injEq] at h
    subst h
    simp only [flat, List.flatMap_cons, Nat.zero_mul, Nat.zero_add]
    rw [List.getElem?_append_left (by rw [hk]; exact hj)]
  | y :: r, i + 1, x, j, h, hj => by
    have ih := flat_get hk r i x j (by simpa using h) hj
    simp only [flat, List.flatMap_cons] at ih ⊢
    rw [List.getElem?_append_right (by rw [hk, Nat.add_mul]; omega), hk, show (i + 1) * k + j - k = i * k + j from by rw [Nat.add_mul]; omega]
    exact ih
theorem flat_app (a b : List α) : flat enc (a ++ b) = flat enc a ++ flat enc b := by simp [flat]
theorem flat_one (h1 : ∀ x, ∀ u ∈ enc x, u.oneCell' = true) (l : List α) : ∀ u ∈ flat enc l, u.oneCell' = true := by
  intro u hu
  obtain ⟨x, _, hx⟩ := List.mem_flatMap.1 hu
  exact h1 x u hx
theorem SL.nil (w : World) (A : Option Addr) : SL enc k w A 0 [] := ⟨rfl, fun h => absurd h (by omega)⟩
theorem SL.keep {w w' : World} {A : Option Addr} {n : Nat} {l : List α} (h : SL enc k w A n l) (hb : Below w.heap.size w w') : SL enc k w' A n l :=
  ⟨h.1, fun hn => by
    obtain ⟨b, o, e, hl, hc⟩ := h.2 hn
    exact ⟨b, o, e, Nat.lt_of_lt_of_le hl hb.size, fun i x hx j u hu => (hb.cell (p := ⟨b, _, none⟩) hl).trans (hc i x hx j u hu)⟩⟩
/-- Where but other blocks turned. -/
theorem SL.grown {w w' : World} {A : Option Addr} {n : Nat} {l : List α} {r : Option Nat} (h : SL enc k w A n l) (hb : w.grownBy w' r) (hr : ∀ g, rowOf A = some g → r ≠ some g) : SL enc k w' A n l :=
  ⟨h.1, fun hn => by
    obtain ⟨b, o, e, hl, hc⟩ := h.2 hn
    refine ⟨b, o, e, Nat.lt_of_lt_of_le hl hb.size, fun i x hx j u hu => (World.cell?_of_block (w := w) (a := ⟨b, _, none⟩) (hb.block b hl fun e2 => ?_)).trans (hc i x hx j u hu)⟩
    exact hr b (by rw [e]; rfl) e2.symm⟩
theorem SL.at_ {w : World} {A : Option Addr} {n : Nat} {l : List α} (h : SL enc k w A n l) {i : Nat} (hi : i < n) :
    ∃ b o x, A = some ⟨b, o, none⟩ ∧ b < w.heap.size ∧ l[i]? = some x ∧ ∀ (j : Nat) (u : Value), (enc x)[j]? = some u → w.cell? ⟨b, o + i * k + j, none⟩ = some u := by
  obtain ⟨b, o, e, hl, hc⟩ := h.2 (by omega)
  have hv : l[i]? = some (l[i]'(by have := h.1; omega)) := List.getElem?_eq_getElem _
  exact ⟨b, o, _, e, hl, hv, hc i _ hv⟩
theorem SL.low {w : World} {A : Option Addr} {n c m : Nat} {l : List α} (h : SL enc k w A n l) (hm : m ≤ n) (hc : n ≤ c) : ∃ X, sliced A 0 m c k = .slice X m c ∧ SL enc k w X m (l.take m) := by
  refine ⟨_, rfl, by rw [List.length_take, h.1]; omega, fun hm0 => ?_⟩
  obtain ⟨b, o, e, hl, hx⟩ := h.2 (by omega)
  refine ⟨b, o, ?_, hl, fun i x hv => hx i x ?_⟩
  · rw [if_neg (by omega), e]
    simp [Addr.add]
  · rw [List.getElem?_take] at hv
    split at hv
    · exact hv
    · cases hv
theorem SL.high {w : World} {A : Option Addr} {n c m : Nat} {l : List α} (h : SL enc k w A n l) (hm : m ≤ n) (hc : n ≤ c) : ∃ X d, sliced A m n c k = .slice X (n - m) d ∧ SL enc k w X (n - m) (l.drop m) := by
  refine ⟨_, _, rfl, by rw [List.length_drop, h.1], fun hm0 => ?_⟩
  obtain ⟨b, o, e, hl, hx⟩ := h.2 (by omega)
  refine ⟨b, o + m * k, ?_, hl, fun i x hv j u hu => ?_⟩
  · rw [if_neg (by omega), e]
    simp [Addr.add]
  · have := hx (m + i) x (by simpa [List.getElem?_drop] using hv) j u hu
    rw [show o + m * k + i * k + j = o + (m + i) * k + j from by rw [Nat.add_mul]; omega]
    exact this
theorem SL.of_own {w : World} {base n c : Nat} {e : TypeId} {A : Option Addr} {l : List α} (hk : ∀ x, (enc x).length = k) (h : w.ownsRow base e k (.slice A n c) n (flat enc l)) (hl : l.length = n) : SL enc k w A n l := by
  refine ⟨hl, fun hn => ?_⟩
  rcases h.2 with ⟨_, e⟩ | ⟨g, cap, cur, e, _, hh, hle, _, hsz, htk⟩
  · omega
  · simp only [Value.slice.injEq, true_and] at e
    obtain ⟨rfl, rfl⟩ := e
    refine ⟨g, 0, rfl, (Array.getElem?_eq_some_iff.1 hh).1, fun i x hx j u hu => ?_⟩
    have hj : j < k := by have := (List.getElem?_eq_some_iff.1 hu).1; rwa [hk] at this
    have hi : i < n := by have := (List.getElem?_eq_some_iff.1 hx).1; omega
    have h1 := flat_get hk l i x j hx hj
    rw [hu, ← htk] at h1
    have h2 : i * k + j < n * k := by
      have := (List.getElem?_eq_some_iff.1 h1).1
      rw [List.length_take] at this; omega
    rw [List.getElem?_take, if_pos h2] at h1
    rw [show (0 : Nat) + i * k + j = i * k + j from by omega]
    simp only [World.cell?, hh]
    simpa using h1
theorem SL.flatCells {w : World} {b o n : Nat} {l : List α} (hk : ∀ x, (enc x).length = k) (hp : 0 < k) (hl : l.length = n) (hc : ∀ (i : Nat) (x : α), l[i]? = some x → ∀ (j : Nat) (u : Value), (enc x)[j]? = some u → w.cell? ⟨b, o + i * k + j, none⟩ = some u) :
    ∀ (j : Nat) (u : Value), (flat enc l)[j]? = some u → w.cell? ((⟨b, o, none⟩ : Addr).add j) = some u := by
  intro j u hu
  have hj := (List.getElem?_eq_some_iff.1 hu).1
  rw [flat_length hk] at hj
  have hi : j / k < l.length := Nat.div_lt_of_lt_mul (by rw [Nat.mul_comm]; exact hj)
  have hx : l[j / k]? = some l[j / k] := List.getElem?_eq_getElem hi
  have hdm : j / k * k + j % k = j := by rw [Nat.mul_comm]; exact Nat.div_add_mod j k
  have h1 := flat_get hk l (j / k) _ (j % k) hx (Nat.mod_lt _ hp)
  rw [hdm, hu] at h1
  have := hc (j / k) _ hx (j % k) u h1.symm
  rw [show o + j / k * k + j % k = o + j from by omega] at this
  rw [Addr.add_lit]
  exact this
/-- append onto a row of the call's own, as an equation of its run. -/
theorem append_sl {P : Program} {t ty e : TypeId} {bytes : Nat} (hE : Elem P t e k bytes) (hk : ∀ x, (enc x).length = k) (h1 : ∀ x, ∀ u ∈ enc x, u.oneCell' = true) {W : World} {base n c : Nat} {A : Option Addr} {xs : List α}
    (hown0 : W.ownsRow base e k (.slice A n c) n (flat enc xs)) (hbase : base ≤ W.heap.size) {B : Option Addr} {m d : Nat} {ys : List α} (hr : SL enc k W B m ys) (hl : (n + m) * bytes ≤ 140737488355328) (hlm : n + m ≤ 140737488355328) :
    ∃ A' c' w1, (appSem #[t, t] ty #[.slice A n c, .slice B m d]).run P W = .ok (.slice A' (n + m) c') w1 ∧ n + m ≤ c' ∧
      w1.ownsRow base e k (.slice A' (n + m) c') (n + m) (flat enc (xs ++ ys)) ∧ W.grownBy w1 (rowOf A) ∧ (rowOf A' = rowOf A ∨ rowOf A' = some W.heap.size) := by
  obtain ⟨hu, ⟨i0, z, hi, hz0, hz1, hz2, hzc⟩, hp⟩ := hE
  have hv : (Value.slice A n c).ownBlock = rowOf A := own_rowOf A _ _
  rw [flat_app]
  by_cases hB : 0 < m
  · obtain ⟨b, o, rfl, _, hc⟩ := hr.2 hB
    obtain ⟨v', w1, hrun, hown, hgr, _, hat⟩ := run_append_own_at (P := P) W base t ty e i0 z k bytes hu hi hz0 hz1 hz2 hzc hp _ _ _ hown0 ⟨b, o, none⟩ m d (flat enc ys) (by rw [flat_length hk, hr.1]) (SL.flatCells hk hp hr.1 hc) (flat_one h1 ys) (by unfold maxLen; omega) hl hbase
    obtain ⟨A', c', rfl, hcap⟩ := own_shape hown
    rw [hv] at hgr hat
    rw [own_rowOf] at hat
    exact ⟨A', c', w1, hrun, hcap, hown, hgr, hat⟩
  · obtain rfl : m = 0 := by omega
    have hy : ys = [] := List.eq_nil_of_length_eq_zero hr.1
    subst hy
    obtain ⟨_, _, _, hcap0⟩ := own_shape hown0
    rcases B with _ | ad
    · refine ⟨A, c, W, ?_, ?_, by simpa [flat] using hown0, World.grownBy.refl W _, .inl rfl⟩
      · show (Builtin.append_ _ _ _).run P W = _
        rcases hown0.2 with ⟨e, e2⟩ | ⟨g, cp, cur, e, _, hh, hnc, hcm, hcs, htk⟩
        · simp only [Value.slice.injEq] at e
          obtain ⟨rfl, rfl, rfl⟩ := e
          simp [Builtin.append_, run_underlying hu, sizeOf, typeInfo, hi, Builtin.lenOf, Builtin.firstCells]
        · simp only [Value.slice.injEq, true_and] at e
          obtain ⟨rfl, rfl⟩ := e
          simp [Builtin.append_, run_underlying hu, sizeOf, typeInfo, hi, Builtin.lenOf, Builtin.firstCells, hnc, storeCells]
      · rcases hown0.2 with ⟨e, e2⟩ | ⟨g, cp, cur, e, _, hh, hnc, _⟩
        · omega
        · simp only [Value.slice.injEq, true_and] at e
          obtain ⟨_, rfl⟩ := e
          omega
    · obtain ⟨v', w1, hrun, hown, hgr, _, hat⟩ := run_append_own_at (P := P) W base t ty e i0 z k bytes hu hi hz0 hz1 hz2 hzc hp _ _ _ hown0 ad 0 d [] (by simp) (fun j u hu => by simp at hu) (fun u hu => by cases hu) (by unfold maxLen; omega) hl hbase
      obtain ⟨A', c', rfl, hcap⟩ := own_shape hown
      rw [hv] at hgr hat
      rw [own_rowOf] at hat
      exact ⟨A', c', w1, hrun, hcap, by simpa [flat] using hown, hgr, hat⟩
/-- What an append leaves of what was there, where the row is the call's own. -/
theorem below_of_grown {w w' : World} {base : Nat} {r : Option Nat} (h : w.grownBy w' r) (hb : base ≤ w.heap.size) (hr : ∀ g, r = some g → base ≤ g) : Below base w w' :=
  ⟨h.os, h.tape, h.output, h.size, fun i hi => h.block i (by omega) fun e => by have := hr i e.symm; omega⟩
theorem own_row {w : World} {base n c : Nat} {e : TypeId} {sz : Nat} {A : Option Addr} {xs : List Value} (h : w.ownsRow base e sz (.slice A n c) n xs) : ∀ g, rowOf A = some g → base ≤ g ∧ g < w.heap.size := by
  intro g hg
  exact h.lt g (by rw [own_rowOf]; exact hg)
end
end Go.Proofs.YtlinjanflenljaaGreatDoor

namespace Go.Proofs.YtlinjanflenljaaGreatDoor
open Go.RowKit
set_option linter.unusedSimpArgs false
set_option linter.unusedVariables false
set_option linter.unusedSectionVars false
set_option maxRecDepth 10000
/-- The bytes of a string. -/
def sOf (l : List UInt8) : ByteArray := ⟨l.toArray⟩
theorem sOf_size (l : List UInt8) : (sOf l).size = l.length := by show l.toArray.size = _; simp
theorem sOf_list (l : List UInt8) : (sOf l).data.toList = l := by simp [sOf]
def encEnt (e : Ent) : List Value := [.int .i64 e.sl, .int .i64 e.ro, .int .i64 e.no, .string (sOf e.v)]
theorem encEnt_len (e : Ent) : (encEnt e).length = 4 := rfl
theorem encEnt_one (e : Ent) : ∀ u ∈ encEnt e, u.oneCell' = true := by intro u hu; simp [encEnt] at hu; rcases hu with rfl | rfl | rfl | rfl <;> rfl
/-- A slice reads as entries. -/
def ES (w : World) (A : Option Addr) (n : Nat) (l : List Ent) : Prop := SL encEnt 4 w A n l
theorem ES.at_ {w : World} {A : Option Addr} {n : Nat} {l : List Ent} (h : ES w A n l) {i : Nat} (hi : i < n) : ∃ b o e, A = some ⟨b, o, none⟩ ∧ b < w.heap.size ∧ l[i]? = some e ∧ w.cell? ⟨b, o + i * 4, none⟩ = some (.int .i64 e.sl) ∧ w.cell? ⟨b, o + i * 4 + 1, none⟩ = some (.int .i64 e.ro) ∧ w.cell? ⟨b, o + i * 4 + 2, none⟩ = some (.int .i64 e.no) ∧ w.cell? ⟨b, o + i * 4 + 3, none⟩ = some (.string (sOf e.v)) := by
  obtain ⟨b, o, x, e, hl, hx, hc⟩ := SL.at_ h hi
  exact ⟨b, o, x, e, hl, hx, hc 0 _ rfl, hc 1 _ rfl, hc 2 _ rfl, hc 3 _ rfl⟩
abbrev Kp := Nat × Array Value × TypeId
/-- Block g is a writer of the bytes ys; it and its row are younger than w0; the blocks ks lie beside it. -/
structure WB (T : TypeId) (w0 : World) (g : Nat) (ks : List Kp) (ys : List UInt8) (W : World) : Prop where
  bg : w0.heap.size ≤ g
  bel : Below w0.heap.size w0 W
  ex : ∃ A c, IsWr T W g A c ys ∧ ∀ k, rowOf A = some k → w0.heap.size ≤ k
  ks : ∀ x ∈ ks, W.heap[x.1]? = some (.cells x.2.1 x.2.2 (0, 0)) ∧ x.2.2 ≠ 5 ∧ x.1 ≠ g
section
variable {T : TypeId} {w0 W W' : World} {g : Nat} {ks : List Kp} {ys zs : List UInt8}
theorem WB.to (hT : T ≠ 5) (h : WB T w0 g ks ys W) {A : Option Addr} {c : Nat} (hi : IsWr T W g A c ys) (hr : ∀ k, rowOf A = some k → w0.heap.size ≤ k) (ht : WrTo T W g A zs W') : WB T w0 g ks zs W' := by
  obtain ⟨A', c', hi', hm, hch⟩ := ht
  refine ⟨h.bg, hch.belowAfter h.bel h.bel.size ?_, ⟨A', c', hi', ?_⟩, fun x hx => ?_⟩
  · intro k hk hs
    have := h.bg
    rcases hs with rfl | hs
    · omega
    · have := hr k hs; omega
  · intro k hk
    rcases hm with e | ⟨j, e, hj⟩
    · exact hr k (by rw [← e]; exact hk)
    · rw [e] at hk
      have : j = k := Option.some.inj hk
      have := h.bel.size
      omega
  · obtain ⟨h1, h2, h3⟩ := h.ks x hx
    refine ⟨(hch.block _ (blkX h1) ?_).trans h1, h2, h3⟩
    rintro (e | e)
    · exact h3 e
    · exact hi.rowNe hT h1 h2 e
theorem WB.step (hT : T ≠ 5) (h : WB T w0 g ks ys W) {f : Nat} {args : Array Value} {R : Ending} (hc : ∀ A c, IsWr T W g A c ys → Calls Tryz.prog f args W fun e w' => e = R ∧ WrTo T W g A zs w') : Calls Tryz.prog f args W fun e w' => e = R ∧ WB T w0 g ks zs w' := by
  obtain ⟨A, c, hi, hr⟩ := h.ex
  exact (hc A c hi).mono fun e w' ⟨he, ht⟩ => ⟨he, h.to hT hi hr ht⟩
theorem WB.keep (h : WB T w0 g ks ys W) (hb : Below W.heap.size W W') : WB T w0 g ks ys W' := by
  obtain ⟨A, c, hi, hr⟩ := h.ex
  exact ⟨h.bg, h.bel.trans (hb.mono h.bel.size), ⟨A, c, hi.below hb, hr⟩, fun x hx => ⟨(hb.block _ (blkX (h.ks x hx).1)).trans (h.ks x hx).1, (h.ks x hx).2⟩⟩
theorem WB.g_lt (h : WB T w0 g ks ys W) : g < W.heap.size := by
  obtain ⟨A, c, hi, hr⟩ := h.ex
  exact hi.lt
theorem WB.new (h : WB T w0 g ks ys W) (cs : Array Value) (t : TypeId) (ht : t ≠ 5) : WB T w0 g ((W.heap.size, cs, t) :: ks) ys (W.alloc (.cells cs t)) := by
  have h2 := h.keep ((Below.refl _ W).alloc (Nat.le_refl _) (.cells cs t))
  refine ⟨h2.bg, h2.bel, h2.ex, fun x hx => ?_⟩
  rcases List.mem_cons.1 hx with rfl | hx
  · exact ⟨hpNew W _, ht, by have := h.g_lt; simp only; omega⟩
  · exact h2.ks x hx
theorem WB.drop {x : Kp} (h : WB T w0 g (x :: ks) ys W) : WB T w0 g ks ys W := ⟨h.bg, h.bel, h.ex, fun y hy => h.ks y (List.mem_cons_of_mem _ hy)⟩
theorem WB.cast (h : WB T w0 g ks ys W) (e : ys = zs) : WB T w0 g ks zs W := e ▸ h
theorem WB.blk {x : Kp} (h : WB T w0 g (x :: ks) ys W) : W.heap[x.1]? = some (.cells x.2.1 x.2.2 (0, 0)) := (h.ks x (List.mem_cons_self ..)).1
theorem WB.es (h : WB T w0 g ks ys W) {A : Option Addr} {n : Nat} {l : List Ent} (hl : ES w0 A n l) : ES W A n l := SL.keep hl h.bel
theorem WB.ldr (h : WB T w0 g ks ys W) (hl : Ldr w0) : Ldr W := hl.keep h.bel
end
/-- The program's writer. -/
abbrev PW := WB 123
section
variable {w0 W : World} {g : Nat} {ks : List Kp} {ys : List UInt8}
theorem WB.uint (h : PW w0 g ks ys W) (v : Int) (x : Nat) (hv : v = (x : Int)) (hx : x < 18446744073709551616) (hl : ys.length ≤ 1000000000) :
    Calls Tryz.prog 68 #[.pointer (some ⟨g, 0, none⟩), .int .u64 v] W fun e w' => e = .returned (.tuple #[]) ∧ PW w0 g ks (ys ++ enc x) w' := by
  subst hv
  exact h.step (by decide) fun A c hi => wUint_any g A c ys x W hi hx hl
theorem WB.text (h : PW w0 g ks ys W) (v : List UInt8) (hv : v.length ≤ 100000) (hl : ys.length ≤ 900000000) :
    Calls Tryz.prog 79 #[.pointer (some ⟨g, 0, none⟩), .string (sOf v)] W fun e w' => e = .returned (.tuple #[]) ∧ PW w0 g ks (ys ++ (enc v.length ++ v)) w' := by
  have hz := sOf_size v
  refine (h.step (by decide) fun A c hi => wText_any g A c ys W hi (by omega) (sOf v) (by omega)).mono ?_
  rintro e w' ⟨rfl, h2⟩
  refine ⟨rfl, h2.cast ?_⟩
  rw [hz, sOf_list, List.append_assoc]
end
end Go.Proofs.YtlinjanflenljaaGreatDoor
