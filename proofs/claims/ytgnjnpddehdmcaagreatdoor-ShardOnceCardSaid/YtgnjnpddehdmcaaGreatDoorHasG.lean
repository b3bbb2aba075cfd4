/- ranges.Has of any range and any key. -/
import Derived.Test.YtgnjnpddehdmcaaGreatDoorHas
import Derived.Maps.AppendAt
namespace Go.Proofs.YtgnjnpddehdmcaaGreatDoor
open Go.RowKit
set_option linter.unusedSimpArgs false
set_option linter.unusedVariables false
def appSem (ts : Array TypeId) (ty : TypeId) (args : Array Value) : Sem Value := Builtin.append_ ts ty args
theorem hideAppend (ts : Array TypeId) (ty : TypeId) (args : Array Value) : Builtin.append_ ts ty args = appSem ts ty args := rfl
def rowOf : Option Addr → Option Nat
 | some a => some a.block
 | none => none
theorem own_rowOf (A : Option Addr) (n c : Nat) : (Value.slice A n c).ownBlock = rowOf A := by cases A <;> rfl
theorem own_shape {W : World} {base n : Nat} {e : TypeId} {size : Nat} {v : Value} {xs : List Value} (h : W.ownsRow base e size v n xs) : ∃ A' c', v = .slice A' n c' ∧ n ≤ c' := by
 rcases h.2 with ⟨e, e2⟩ | ⟨k, cp, cur, e, _, _, hle, _⟩
 ·
  exact ⟨none, 0, by rw [e, e2], by omega⟩
 ·
  exact ⟨_, _, e, hle⟩
structure Elem (P : Program) (ty e : TypeId) (k bytes : Nat) : Prop where
 und : P.underlying ty = some (.slice e)
 info : ∃ i z, P.info? e = some i ∧ i.zero = some z ∧ i.size = k ∧ i.bytes = bytes ∧ z.cells.size = k
 pos : 0 < k
theorem elem_of {P : Program} {ty e : TypeId} {k bytes : Nat} {z : Value} (hu : P.underlying ty = some (.slice e)) (hi : (P.info? e).map (fun i => (i.zero, i.size, i.bytes)) = some (some z, k, bytes)) (hz : z.cells.size = k) (hk : 0 < k) : Elem P ty e k bytes := by
 obtain ⟨i, h1, h2⟩ := Option.map_eq_some_iff.1 hi
 simp only [Prod.mk.injEq] at h2
 exact ⟨hu, ⟨i, z, h1, h2.1, h2.2.1, h2.2.2, hz⟩, hk⟩
section
variable {α : Type} (enc : α → List Value) (k : Nat)
def SL (w : World) (A : Option Addr) (n : Nat) (l : List α) : Prop :=
 l.length = n ∧ (0 < n → ∃ b o, A = some ⟨b, o, none⟩ ∧ b < w.heap.size ∧ ∀ (i : Nat) (x : α), l[i]? = some x → ∀ (j : Nat) (u : Value), (enc x)[j]? = some u → w.cell? ⟨b, o + i * k + j, none⟩ = some u)
def flat (l : List α) : List Value := l.flatMap enc
end
section
variable {α : Type} {enc : α → List Value} {k : Nat}
theorem flat_length (hk : ∀ x, (enc x).length = k) : ∀ l : List α, (flat enc l).length = l.length * k
 | [] => by simp [flat]
 | x :: r => by
  have := flat_length hk r
  simp only [flat, List.flatMap_cons, List.length_append, hk, List.length_cons] at this ⊢
  rw [this, Nat.add_mul]; omega
theorem flat_get (hk : ∀ x, (enc x).length = k) : ∀ (l : List α) (i : Nat) (x : α) (j : Nat), l[i]? = some x → j < k → (flat enc l)[i * k + j]? = (enc x)[j]?
 | [], i, x, j, h, _ => by simp at h
 | y :: r, 0, x, j, h, hj => by
  simp only [List.getElem?_cons_zero, Option.some.injEq] at h
  subst h
  simp only [flat, List.flatMap_cons, Nat.zero_mul, Nat.zero_add]
  rw [List.getElem?_append_left (by rw [hk]; exact hj)]
 | y :: r, i + 1, x, j, h, hj => by
  have ih := flat_get hk r i x j (by simpa using h) hj
  simp only [flat, List.flatMap_cons] at ih ⊢
  rw [List.getElem?_append_right (by rw [hk, Nat.add_mul]; omega), hk, show (i + 1) * k + j - k = i * k + j from by rw [Nat.add_mul]; omega]
  exact ih
theorem flat_app (a b : List α) : flat enc (a ++ b) = flat enc a ++ flat enc b := by simp [flat]
theorem flat_one (h1 : ∀ x, ∀ u ∈ enc x, u.oneCell' = true) (l : List α) : ∀ u ∈ flat enc l, u.oneCell' = true := by
 intro u hu
 obtain ⟨x, _, hx⟩ := List.mem_flatMap.1 hu
 exact h1 x u hx
theorem SL.nil (w : World) (A : Option Addr) : SL enc k w A 0 [] := ⟨rfl, fun h => absurd h (by omega)⟩
theorem SL.keep {w w' : World} {A : Option Addr} {n : Nat} {l : List α} (h : SL enc k w A n l) (hb : Below w.heap.size w w') : SL enc k w' A n l :=
 ⟨h.1, fun hn => by
  obtain ⟨b, o, e, hl, hc⟩ := h.2 hn
  exact ⟨b, o, e, Nat.lt_of_lt_of_le hl hb.size, fun i x hx j u hu => (hb.cell (p := ⟨b, _, none⟩) hl).trans (hc i x hx j u hu)⟩⟩
theorem SL.grown {w w' : World} {A : Option Addr} {n : Nat} {l : List α} {r : Option Nat} (h : SL enc k w A n l) (hb : w.grownBy w' r) (hr : ∀ g, rowOf A = some g → r ≠ some g) : SL enc k w' A n l :=
 ⟨h.1, fun hn => by
  obtain ⟨b, o, e, hl, hc⟩ := h.2 hn
  refine ⟨b, o, e, Nat.lt_of_lt_of_le hl hb.size, fun i x hx j u hu => (World.cell?_of_block (w := w) (a := ⟨b, _, none⟩) (hb.block b hl fun e2 => ?_)).trans (hc i x hx j u hu)⟩
  exact hr b (by rw [e]; rfl) e2.symm⟩
theorem SL.at_ {w : World} {A : Option Addr} {n : Nat} {l : List α} (h : SL enc k w A n l) {i : Nat} (hi : i < n) :
  ∃ b o x, A = some ⟨b, o, none⟩ ∧ b < w.heap.size ∧ l[i]? = some x ∧ ∀ (j : Nat) (u : Value), (enc x)[j]? = some u → w.cell? ⟨b, o + i * k + j, none⟩ = some u := by
 obtain ⟨b, o, e, hl, hc⟩ := h.2 (by omega)
 have hv : l[i]? = some (l[i]'(by have := h.1; omega)) := List.getElem?_eq_getElem _
 exact ⟨b, o, _, e, hl, hv, hc i _ hv⟩
theorem SL.low {w : World} {A : Option Addr} {n c m : Nat} {l : List α} (h : SL enc k w A n l) (hm : m ≤ n) (hc : n ≤ c) : ∃ X, sliced A 0 m c k = .slice X m c ∧ SL enc k w X m (l.take m) := by
 refine ⟨_, rfl, by rw [List.length_take, h.1]; omega, fun hm0 => ?_⟩
 obtain ⟨b, o, e, hl, hx⟩ := h.2 (by omega)
 refine ⟨b, o, ?_, hl, fun i x hv => hx i x ?_⟩
 ·
  rw [if_neg (by omega), e]
  simp [Addr.add]
 ·
  rw [List.getElem?_take] at hv
  split at hv
  ·
   exact hv
  ·
   cases hv
theorem SL.high {w : World} {A : Option Addr} {n c m : Nat} {l : List α} (h : SL enc k w A n l) (hm : m ≤ n) (hc : n ≤ c) : ∃ X d, sliced A m n c k = .slice X (n - m) d ∧ SL enc k w X (n - m) (l.drop m) := by
 refine ⟨_, _, rfl, by rw [List.length_drop, h.1], fun hm0 => ?_⟩
 obtain ⟨b, o, e, hl, hx⟩ := h.2 (by omega)
 refine ⟨b, o + m * k, ?_, hl, fun i x hv j u hu => ?_⟩
 ·
  rw [if_neg (by omega), e]
  simp [Addr.add]
 ·
  have := hx (m + i) x (by simpa [List.getElem?_drop] using hv) j u hu
  rw [show o + m * k + i * k + j = o + (m + i) * k + j from by rw [Nat.add_mul]; omega]
  exact this
theorem SL.of_own {w : World} {base n c : Nat} {e : TypeId} {A : Option Addr} {l : List α} (hk : ∀ x, (enc x).length = k) (h : w.ownsRow base e k (.slice A n c) n (flat enc l)) (hl : l.length = n) : SL enc k w A n l := by
 refine ⟨hl, fun hn => ?_⟩
 rcases h.2 with ⟨_, e⟩ | ⟨g, cap, cur, e, _, hh, hle, _, hsz, htk⟩
 ·
  omega
 ·
  simp only [Value.slice.injEq, true_and] at e
  obtain ⟨rfl, rfl⟩ := e
  refine ⟨g, 0, rfl, (Array.getElem?_eq_some_iff.1 hh).1, fun i x hx j u hu => ?_⟩
  have hj : j < k := by have := (List.getElem?_eq_some_iff.1 hu).1; rwa [hk] at this
  have hi : i < n := by have := (List.getElem?_eq_some_iff.1 hx).1; omega
  have h1 := flat_get hk l i x j hx hj
  rw [hu, ← htk] at h1
  have h2 : i * k + j < n * k := by
   have := (List.getElem?_eq_some_iff.1 h1).1
   rw [List.length_take] at this; omega
  rw [List.getElem?_take, if_pos h2] at h1
  rw [show (0 : Nat) + i * k + j = i * k + j from by omega]
  simp only [World.cell?, hh]
  simpa using h1
theorem SL.flatCells {w : World} {b o n : Nat} {l : List α} (hk : ∀ x, (enc x).length = k) (hp : 0 < k) (hl : l.length = n) (hc : ∀ (i : Nat) (x : α), l[i]? = some x → ∀ (j : Nat) (u : Value), (enc x)[j]? = some u → w.cell? ⟨b, o + i * k + j, none⟩ = some u) :
  ∀ (j : Nat) (u : Value), (flat enc l)[j]? = some u → w.cell? ((⟨b, o, none⟩ : Addr).add j) = some u := by
 intro j u hu
 have hj := (List.getElem?_eq_some_iff.1 hu).1
 rw [flat_length hk] at hj
 have hi : j / k < l.length := Nat.div_lt_of_lt_mul (by rw [Nat.mul_comm]; exact hj)
 have hx : l[j / k]? = some l[j / k] := List.getElem?_eq_getElem hi
 have hdm : j / k * k + j % k = j := by rw [Nat.mul_comm]; exact Nat.div_add_mod j k
 have h1 := flat_get hk l (j / k) _ (j % k) hx (Nat.mod_lt _ hp)
 rw [hdm, hu] at h1
 have := hc (j / k) _ hx (j % k) u h1.symm
 rw [show o + j / k * k + j % k = o + j from by omega] at this
 rw [Addr.add_lit]
 exact this
theorem append_sl {P : Program} {t ty e : TypeId} {bytes : Nat} (hE : Elem P t e k bytes) (hk : ∀ x, (enc x).length = k) (h1 : ∀ x, ∀ u ∈ enc x, u.oneCell' = true) {W : World} {base n c : Nat} {A : Option Addr} {xs : List α}
  (hown0 : W.ownsRow base e k (.slice A n c) n (flat enc xs)) (hbase : base ≤ W.heap.size) {B : Option Addr} {m d : Nat} {ys : List α} (hr : SL enc k W B m ys) (hl : (n + m) * bytes ≤ 140737488355328) (hlm : n + m ≤ 140737488355328) :
  ∃ A' c' w1, (appSem #[t, t] ty #[.slice A n c, .slice B m d]).run P W = .ok (.slice A' (n + m) c') w1 ∧ n + m ≤ c' ∧
   w1.ownsRow base e k (.slice A' (n + m) c') (n + m) (flat enc (xs ++ ys)) ∧ W.grownBy w1 (rowOf A) ∧ (rowOf A' = rowOf A ∨ rowOf A' = some W.heap.size) := by
 obtain ⟨hu, ⟨i0, z, hi, hz0, hz1, hz2, hzc⟩, hp⟩ := hE
 have hv : (Value.slice A n c).ownBlock = rowOf A := own_rowOf A _ _
 rw [flat_app]
 by_cases hB : 0 < m
 ·
  obtain ⟨b, o, rfl, _, hc⟩ := hr.2 hB
  obtain ⟨v', w1, hrun, hown, hgr, _, hat⟩ := run_append_own_at (P := P) W base t ty e i0 z k bytes hu hi hz0 hz1 hz2 hzc hp _ _ _ hown0 ⟨b, o, none⟩ m d (flat enc ys) (by rw [flat_length hk, hr.1]) (SL.flatCells hk hp hr.1 hc) (flat_one h1 ys) (by unfold maxLen; omega) hl hbase
  obtain ⟨A', c', rfl, hcap⟩ := own_shape hown
  rw [hv] at hgr hat
  rw [own_rowOf] at hat
  exact ⟨A', c', w1, hrun, hcap, hown, hgr, hat⟩
 ·
  obtain rfl : m = 0 := by omega
  have hy : ys = [] := List.eq_nil_of_length_eq_zero hr.1
  subst hy
  obtain ⟨_, _, _, hcap0⟩ := own_shape hown0
  rcases B with _ | ad
  ·
   refine ⟨A, c, W, ?_, ?_, by simpa [flat] using hown0, World.grownBy.refl W _, .inl rfl⟩
   ·
    show (Builtin.append_ _ _ _).run P W = _
    rcases hown0.2 with ⟨e, e2⟩ | ⟨g, cp, cur, e, _, hh, hnc, hcm, hcs, htk⟩
    ·
     simp only [Value.slice.injEq] at e
     obtain ⟨rfl, rfl, rfl⟩ := e
     simp [Builtin.append_, run_underlying hu, sizeOf, typeInfo, hi, Builtin.lenOf, Builtin.firstCells]
    ·
     simp only [Value.slice.injEq, true_and] at e
     obtain ⟨rfl, rfl⟩ := e
     simp [Builtin.append_, run_underlying hu, sizeOf, typeInfo, hi, Builtin.lenOf, Builtin.firstCells, hnc, storeCells]
   ·
    rcases hown0.2 with ⟨e, e2⟩ | ⟨g, cp, cur, e, _, hh, hnc, _⟩
    ·
     omega
    ·
     simp only [Value.slice.injEq, true_and] at e
     obtain ⟨_, rfl⟩ := e
     omega
  ·
   obtain ⟨v', w1, hrun, hown, hgr, _, hat⟩ := run_append_own_at (P := P) W base t ty e i0 z k bytes hu hi hz0 hz1 hz2 hzc hp _ _ _ hown0 ad 0 d [] (by simp) (fun j u hu => by simp at hu) (fun u hu => by cases hu) (by unfold maxLen; omega) hl hbase
   obtain ⟨A', c', rfl, hcap⟩ := own_shape hown
   rw [hv] at hgr hat
   rw [own_rowOf] at hat
   exact ⟨A', c', w1, hrun, hcap, by simpa [flat] using hown, hgr, hat⟩
theorem below_of_grown {w w' : World} {base : Nat} {r : Option Nat} (h : w.grownBy w' r) (hb : base ≤ w.heap.size) (hr : ∀ g, r = some g → base ≤ g) : Below base w w' :=
 ⟨h.os, h.tape, h.output, h.size, fun i hi => h.block i (by omega) fun e => by have := hr i e.symm; omega⟩
theorem own_row {w : World} {base n c : Nat} {e : TypeId} {sz : Nat} {A : Option Addr} {xs : List Value} (h : w.ownsRow base e sz (.slice A n c) n xs) : ∀ g, rowOf A = some g → base ≤ g ∧ g < w.heap.size := by
 intro g hg
 exact h.lt g (by rw [own_rowOf]; exact hg)
end
end Go.Proofs.YtgnjnpddehdmcaaGreatDoor

namespace Go.Proofs.YtgnjnpddehdmcaaGreatDoor
open Go.RowKit Go.Shelf
set_option linter.unusedSimpArgs false
set_option linter.unusedVariables false
set_option linter.unusedSectionVars false
set_option maxRecDepth 10000
def encG (g : Rg) : List Value := [.string g.1, .string g.2]
theorem encG_len (g : Rg) : (encG g).length = 2 := rfl
theorem encG_one (g : Rg) : ∀ u ∈ encG g, u.oneCell' = true := by intro u hu; simp [encG] at hu; rcases hu with rfl | rfl <;> rfl
theorem elemG : Elem Tryz.prog 42 32 2 32 := elem_of (z := .agg #[.string ⟨#[]⟩, .string ⟨#[]⟩]) Tryz.underlying42 (by kernel_rfl) rfl (by omega)
abbrev GS (w : World) (A : Option Addr) (n : Nat) (l : List Rg) : Prop := SL encG 2 w A n l
def szG (g : Rg) : Prop := g.1.size ≤ 140737488355328 ∧ g.2.size ≤ 140737488355328
def endsE (l : List Rg) : Int := if l.all okG then 0 else 2
theorem endsE_cases (l : List Rg) : endsE l = 0 ∨ endsE l = 2 := by unfold endsE; by_cases h : l.all okG = true <;> simp [h]
set_option maxHeartbeats 4000000 in
theorem ends_many (l : List Rg) (A : Option Addr) (n d : Nat) (w : World) (hl : GS w A n l) (hn : n ≤ 1000000) (hs : ∀ x ∈ l, szG x) :
  Calls Tryz.prog 161 #[.slice A n d] w fun e w' => ∃ v, e = .returned (.tuple #[v, .int .i64 (endsE l)]) ∧ (l.all okG = true → v = .func (.func 219) #[] #[]) ∧ Below w.heap.size w w' := by
 replace hl := Lh hl; replace hs := Lh hs
 go_enter Tryz.func161, Tryz.ntmps161
 go_wp2_with (fail)
 go_loopw [9] (fun i wr => ∃ k : Nat, k ≤ n ∧ i = .int .i64 k ∧ (∀ x ∈ l.take k, okG x = true) ∧ Below w.heap.size w wr) (fun i _ => n - (intOf i).toNat)
 case atStart => exact ⟨0, by omega, rfl, by simp, Below.refl _ _⟩
 case round =>
  revert wr
  intro W1 hrel
  obtain ⟨k, hk, rfl, hall, hbel⟩ := hrel
  by_cases hlt : k < n
  ·
   obtain ⟨b, o, x, rfl, hbl, hx, hc⟩ := SL.at_ hl.out hlt
   obtain ⟨xa, xb⟩ := x
   have s0 := (hbel.cell (p := ⟨b, _, none⟩) hbl).trans (hc 0 _ rfl)
   have s1 := (hbel.cell (p := ⟨b, _, none⟩) hbl).trans (hc 1 _ rfl)
   rw [Nat.add_zero] at s0
   clear hc
   have kb := Lh (hbel.alloc hbel.size (.cells #[.string xa, .string xb] 32))
   have hsx := hs.out (xa, xb) (List.mem_of_getElem? hx)
   have hr := fun W => rng_any xa xb W hsx.1 hsx.2
   have hnx : ∀ y, y ∈ l.take (k + 1) → y ∈ l.take k ∨ y = (xa, xb) := fun y hy => by
    rw [List.take_add_one, hx] at hy
    rcases List.mem_append.1 hy with h | h
    ·
     exact .inl h
    ·
     exact .inr (by simpa using h)
   have hxm : (xa, xb) ∈ l := List.mem_of_getElem? hx
   have j0 : (0 : Int) ≤ k := by omega
   have j1 : (k : Int) < (n : Int) := by omega
   replace hbel := Lh hbel; replace hx := Lh hx; replace hall := Lh hall; replace hnx := Lh hnx; replace hsx := Lh hsx; replace hxm := Lh hxm
   cases ho : okG (xa, xb) with
   | true =>
    rw [takeC_ok ho] at hr
    replace ho := Lh ho
    go_wp2_with (fail)
    refine (hr _).mono ?_
    rintro e w2 ⟨rfl, b2⟩
    have hb2 := Lh (kb.out.trans (b2.mono kb.out.size))
    clear b2 s0 s1
    go_wp2_with (fail)
    exact ⟨⟨k + 1, by omega, by go_num, fun y hy => by
     rcases hnx.out y hy with h | rfl
     ·
      exact hall.out y h
     ·
      exact ho.out, hb2.out⟩, by simp [intOf]; omega⟩
   | false =>
    rw [takeC_bad ho] at hr
    have hE : endsE l = 2 := by
     unfold endsE
     rw [if_neg]
     intro q
     have := List.all_eq_true.1 q _ hxm.out
     rw [ho] at this; cases this
    have hF : ¬ l.all okG = true := fun q => by
     have := List.all_eq_true.1 q _ hxm.out
     rw [ho] at this; cases this
    replace ho := Lh ho; replace hF := Lh hF; replace hE := Lh hE
    go_wp2_with (fail)
    refine (hr _).mono ?_
    rintro e w2 ⟨rfl, b2⟩
    have hb2 := Lh (kb.out.trans (b2.mono kb.out.size))
    clear b2 s0 s1
    go_wp2_with (fail)
    refine bodyPost_ret (results_tmp2 rfl _ _ _) rfl ?_
    exact ⟨_, by rw [hE.out]; rfl, fun q => absurd q hF.out, hb2.out⟩
  ·
   obtain rfl : k = n := by omega
   have hF : l.all okG = true := List.all_eq_true.2 fun y hy => hall y (by rw [List.take_of_length_le (by have := hl.out.1; omega)]; exact hy)
   have hE : endsE l = 0 := by unfold endsE; rw [if_pos hF]
   have j1 : ¬ (k : Int) < (k : Int) := by omega
   replace hbel := Lh hbel; replace hall := Lh hall; replace hF := Lh hF; replace hE := Lh hE
   go_wp2_with (fail)
   refine bodyPost_ret (results_tmp2 rfl _ _ _) rfl ?_
   exact ⟨_, by rw [hE.out]; rfl, fun _ => rfl, hbel.out⟩
theorem gs_one {W : World} {g : Nat} {a b : ByteArray} (h : W.heap[g]? = some (.cells #[.string a, .string b] 32 (0, 0))) : GS W (some ⟨g, 0, none⟩) 1 [(a, b)] := by
 refine ⟨rfl, fun _ => ⟨g, 0, rfl, blkX h, fun i x hx j u hu => ?_⟩⟩
 obtain rfl : i = 0 := by have := (List.getElem?_eq_some_iff.1 hx).1; simp at this; omega
 obtain rfl : x = (a, b) := by simpa using hx.symm
 have hj : j = 0 ∨ j = 1 := by have := (List.getElem?_eq_some_iff.1 hu).1; rw [encG_len] at this; omega
 refine (blkC h _).trans ?_
 rcases hj with rfl | rfl <;> (simp [encG] at hu; subst hu; rfl)
theorem gs_two {W : World} {g : Nat} {a b c d : ByteArray} (h : W.heap[g]? = some (.cells #[.string a, .string b, .string c, .string d] 32 (0, 0))) : GS W (some ⟨g, 0, none⟩) 2 [(a, b), (c, d)] := by
 refine ⟨rfl, fun _ => ⟨g, 0, rfl, blkX h, fun i x hx j u hu => ?_⟩⟩
 have hi : i = 0 ∨ i = 1 := by have := (List.getElem?_eq_some_iff.1 hx).1; simp at this; omega
 have hj : j = 0 ∨ j = 1 := by have := (List.getElem?_eq_some_iff.1 hu).1; rw [encG_len] at this; omega
 refine (blkC h _).trans ?_
 rcases hi with rfl | rfl <;> (simp at hx; subst hx; rcases hj with rfl | rfl <;> (simp [encG] at hu; subst hu; rfl))

def hasG (g : Rg) (k : ByteArray) : Bool := okG g && nameB k && inG g k
set_option maxHeartbeats 4000000 in
theorem hasG_any (a b key : ByteArray) (w : World) (ha : a.size ≤ 140737488355328) (hb : b.size ≤ 140737488355328) (hks : key.size ≤ 140737488355328) :
  Calls Tryz.prog 58 #[.agg #[.string a, .string b], .string key] w fun e w' => e = .returned (.bool (hasG (a, b) key)) ∧ Below w.heap.size w w' := by
 by_cases hk : nameB key = true
 ·
  by_cases hok : okG (a, b) = true
  ·
   have h := has_any a b key w hok hk ha hb hks
   rw [show hasG (a, b) key = inG (a, b) key from by unfold hasG; rw [hok, hk]; rfl]
   exact h
  ·
   have hok' : okG (a, b) = false := by simpa using hok
   have hf : hasG (a, b) key = false := by unfold hasG; rw [hok']; rfl
   rw [hf]
   have kb := (Below.refl w.heap.size w).alloc (Nat.le_refl _) (.cells #[.string a, .string b] 32)
   obtain ⟨W0, hW0⟩ : ∃ W0, W0 = (w.alloc (.cells #[.string a, .string b] 32)).alloc (.cells #[.string a, .string b] 32) := ⟨_, rfl⟩
   have b1 : W0.heap[w.heap.size + 1]? = some (.cells #[.string a, .string b] 32 (0, 0)) := by
    have := hpNew (w.alloc (.cells #[.string a, .string b] 32)) (.cells #[.string a, .string b] 32)
    rw [hW0]; simpa using this
   have k0 : Below w.heap.size w W0 := by rw [hW0]; exact kb.alloc kb.size _
   have he := ends_many [(a, b)] (some ⟨w.heap.size + 1, 0, none⟩) 1 1 W0 (gs_one b1) (by omega) (by intro x hx; simp at hx; subst hx; exact ⟨ha, hb⟩)
   rw [show endsE [(a, b)] = 2 from by unfold endsE; simp [hok']] at he
   replace k0 := Lh k0; replace b1 := Lh b1; replace hok := Lh hok; replace hok' := Lh hok'; replace hf := Lh hf; replace hk := Lh hk; replace kb := Lh kb
   go_enter Tryz.func58, Tryz.ntmps58
   go_wp2_with (fail)
   rw [← hW0]
   replace hW0 := Lh hW0
   refine he.mono ?_
   rintro e w1 ⟨v, rfl, -, c1⟩
   have k1 := Lh (k0.out.trans (c1.mono k0.out.size))
   clear c1 he
   go_wp2_with (fail)
   go_ret
   exact ⟨rfl, k1.out⟩
 ·
  have hk' : nameB key = false := by simpa using hk
  have hf : hasG (a, b) key = false := by unfold hasG; rw [hk', Bool.and_false]; rfl
  rw [hf]
  have hN := fun W => name_any key hks W
  simp only [hk'] at hN
  have kb := (Below.refl w.heap.size w).alloc (Nat.le_refl _) (.cells #[.string a, .string b] 32)
  obtain ⟨W0, hW0⟩ : ∃ W0, W0 = (w.alloc (.cells #[.string a, .string b] 32)).alloc (.cells #[.string a, .string b] 32) := ⟨_, rfl⟩
  have b1 : W0.heap[w.heap.size + 1]? = some (.cells #[.string a, .string b] 32 (0, 0)) := by
   have := hpNew (w.alloc (.cells #[.string a, .string b] 32)) (.cells #[.string a, .string b] 32)
   rw [hW0]; simpa using this
  have k0 : Below w.heap.size w W0 := by rw [hW0]; exact kb.alloc kb.size _
  have he := ends_many [(a, b)] (some ⟨w.heap.size + 1, 0, none⟩) 1 1 W0 (gs_one b1) (by omega) (by intro x hx; simp at hx; subst hx; exact ⟨ha, hb⟩)
  replace k0 := Lh k0; replace b1 := Lh b1; replace hf := Lh hf; replace hk := Lh hk; replace kb := Lh kb; replace hk' := Lh hk'
  rcases endsE_cases [(a, b)] with hE | hE <;> rw [hE] at he <;> clear hE
  ·
   go_enter Tryz.func58, Tryz.ntmps58
   go_wp2_with (fail)
   rw [← hW0]
   replace hW0 := Lh hW0
   refine he.mono ?_
   rintro e w1 ⟨v, rfl, -, c1⟩
   have k1 := Lh (k0.out.trans (c1.mono k0.out.size))
   clear c1 he
   go_wp2_with (fail)
   refine (hN _).mono ?_
   rintro e w2 ⟨rfl, c2⟩
   have k2 := Lh (k1.out.trans (c2.mono k1.out.size))
   clear c2
   go_wp2_with (fail)
   go_ret
   exact ⟨rfl, k2.out⟩
  ·
   go_enter Tryz.func58, Tryz.ntmps58
   go_wp2_with (fail)
   rw [← hW0]
   replace hW0 := Lh hW0
   refine he.mono ?_
   rintro e w1 ⟨v, rfl, -, c1⟩
   have k1 := Lh (k0.out.trans (c1.mono k0.out.size))
   clear c1 he
   go_wp2_with (fail)
   go_ret
   exact ⟨rfl, k1.out⟩
end Go.Proofs.YtgnjnpddehdmcaaGreatDoor
