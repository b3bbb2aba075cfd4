/- A row of structs of the call's own, and the library's words for it (HoldsK, putRowK): to them and back. No program in sight. -/
import Derived.Test.YtgnjnpddehdmcaaGreatDoorRangeG
import Derived.Test.YtgnjnpddehdmcaaGreatDoorStI
import Derived.Test.YtgnjnpddehdmcaaGreatDoorShort
import Derived.Deep.MidRow
import Derived.OrdersHeld
import Derived.Test.YtgnjnpddehdmcaaGreatDoorHasG
import Derived.Shelf.GgSortFunc.RowK
namespace Go.Proofs.YtgnjnpddehdmcaaGreatDoor
open Go.RowKit Go.Shelf
set_option linter.unusedSimpArgs false
set_option linter.unusedVariables false
set_option linter.unusedSectionVars false
set_option maxRecDepth 10000
def keysR (x : Sh) (r : Rg) : Ct := x.cnt.filter fun y => hasG r y.1
def doneR (x : Sh) (r : Rg) : List En := x.mem.filter fun y => hasG r y.k
theorem encC_len (c : Cn) : (encC c).length = 5 := rfl
theorem encM_len (y : En) : (encM y).length = 7 := rfl
theorem encC_one (c : Cn) : ∀ u ∈ encC c, u.oneCell' = true := by intro u hu; simp [encC] at hu; rcases hu with rfl | rfl | rfl | rfl | rfl <;> rfl
theorem encM_one (y : En) : ∀ u ∈ encM y, u.oneCell' = true := by intro u hu; simp [encM] at hu; rcases hu with rfl | rfl | rfl | rfl | rfl | rfl | rfl <;> rfl
theorem elemC : Elem Tryz.prog 44 58 5 40 := elem_of (z := .agg #[.int .i64 0, .int .i64 0, .int .i64 0, .int .i64 0, .int .i64 0]) Tryz.underlying44 (by kernel_rfl) rfl (by omega)
theorem elemM : Elem Tryz.prog 45 101 7 72 := elem_of (z := .agg #[.int .i64 0, .int .i64 0, .int .i64 0, .string ⟨#[]⟩, .int .i64 0, .int .i64 0, .string ⟨#[]⟩]) Tryz.underlying45 (by kernel_rfl) rfl (by omega)
theorem sl_one {α : Type} {enc : α → List Value} {k : Nat} (hk : ∀ x, (enc x).length = k) {W : World} {g : Nat} {x : α} {T : TypeId} {cs : Array Value} (h : W.heap[g]? = some (.cells cs T (0, 0))) (hc : cs = (enc x).toArray) : SL enc k W (some ⟨g, 0, none⟩) 1 [x] := by
 subst hc
 refine ⟨rfl, fun _ => ⟨g, 0, rfl, blkX h, fun i y hx j u hu => ?_⟩⟩
 have hi : i = 0 := by have := (List.getElem?_eq_some_iff.1 hx).1; simp at this; omega
 subst hi
 simp at hx; subst hx
 have q := blkC h j
 rw [List.getElem?_toArray, hu] at q
 simpa using q
theorem own_by {W W' : World} {B n c sz : Nat} {e : TypeId} {A : Option Addr} {xs : List Value} (h : W.ownsRow B e sz (.slice A n c) n xs) (hk : ∀ k cs, B ≤ k → W.heap[k]? = some (.cells cs e (0, 0)) → W'.heap[k]? = W.heap[k]?) : W'.ownsRow B e sz (.slice A n c) n xs :=
 ⟨h.1, h.2.imp id fun ⟨g, cap, cur, e1, e2, hh, r⟩ => ⟨g, cap, cur, e1, e2, (hk g _ e2 hh).trans hh, r⟩⟩
theorem own_row_re {w : World} {base base' n c sz : Nat} {e : TypeId} {A : Option Addr} {xs : List Value} (h : w.ownsRow base e sz (.slice A n c) n xs) (hb : base' ≤ base) : w.ownsRow base' e sz (.slice A n c) n xs :=
 ⟨h.1, h.2.imp id fun ⟨g, cap, cur, e1, e2, r⟩ => ⟨g, cap, cur, e1, Nat.le_trans hb e2, r⟩⟩
theorem joinArm {α : Type} {F G : α → Prop} {X : Prop} (main : (∀ V, F V → G V) → X) (pf : ∀ V, F V → G V) : X := main pf
theorem SL.same {α : Type} {enc : α → List Value} {k : Nat} {w w' : World} {A : Option Addr} {n : Nat} {l : List α} (h : SL enc k w A n l) (hk : ∀ g, rowOf A = some g → g < w.heap.size → g < w'.heap.size ∧ w'.heap[g]? = w.heap[g]?) : SL enc k w' A n l :=
 ⟨h.1, fun hn => by
  obtain ⟨b, o, rfl, hl, hc⟩ := h.2 hn
  exact ⟨b, o, rfl, (hk b rfl hl).1, fun i x hx j u hu => (World.cell?_of_block (w := w) ((hk b rfl hl).2)).trans (hc i x hx j u hu)⟩⟩
structure RowE (B : Option Addr) (n : Nat) (l : List Ef) (W : World) : Prop where
 es : ES W B n l
 row : ∀ g, rowOf B = some g → ∃ cs, W.heap[g]? = some (.cells cs 30 (0, 0))
theorem RowE.same {B : Option Addr} {n : Nat} {l : List Ef} {W W' : World} (h : RowE B n l W) (hk : ∀ (k : Nat) (cs : Array Value) (f : Nat × Nat), W.heap[k]? = some (.cells cs 30 f) → W'.heap[k]? = W.heap[k]?) : RowE B n l W' :=
 ⟨h.es.same fun g hg _ => by obtain ⟨cs, hc⟩ := h.row g hg; have := hk _ _ _ hc; exact ⟨blkX (this.trans hc), this⟩, fun g hg => by obtain ⟨cs, hc⟩ := h.row g hg; exact ⟨cs, (hk _ _ _ hc).trans hc⟩⟩
theorem RowE.below {B : Option Addr} {n : Nat} {l : List Ef} {W W' : World} (h : RowE B n l W) (hb : Below W.heap.size W W') : RowE B n l W' := h.same fun k cs f q => hb.block _ (blkX q)
structure ParW (v : World) (kv : Ct) (ds : List En) (A1 : Option Addr) (c1 : Nat) (A2 : Option Addr) (c2 : Nat) (A3 : Option Addr) (c3 : Nat) (W : World) : Prop where
 bel : Below v.heap.size v W
 o1 : W.ownsRow v.heap.size 9 1 (.slice A1 kv.length c1) kv.length (flat encS1 (kv.map (·.1)))
 o2 : W.ownsRow v.heap.size 58 5 (.slice A2 kv.length c2) kv.length (flat encC (kv.map (·.2)))
 o3 : W.ownsRow v.heap.size 101 7 (.slice A3 ds.length c3) ds.length (flat encM ds)
structure PaI (v : World) (r : Rg) (k1 : List ByteArray) (k2 : List Cn) (k3 : List En) (A1 : Option Addr) (c1 : Nat) (A2 : Option Addr) (c2 : Nat) (A3 : Option Addr) (c3 : Nat) (W : World) : Prop where
 bel : Below v.heap.size v W
 rng : W.heap[v.heap.size]? = some (.cells #[.string r.1, .string r.2] 32 (0, 0))
 res : W.heap[v.heap.size + 1]? = some (.cells #[.slice none 0 0, .slice none 0 0, .slice none 0 0] 81 (0, 0))
 pbx : W.heap[v.heap.size + 2]? = some (.cells #[.slice A1 k1.length c1, .slice A2 k2.length c2, .slice A3 k3.length c3] 81 (0, 0))
 o1 : W.ownsRow v.heap.size 9 1 (.slice A1 k1.length c1) k1.length (flat encS1 k1)
 o2 : W.ownsRow v.heap.size 58 5 (.slice A2 k2.length c2) k2.length (flat encC k2)
 o3 : W.ownsRow v.heap.size 101 7 (.slice A3 k3.length c3) k3.length (flat encM k3)
section
variable {v W W' : World} {r : Rg} {k1 : List ByteArray} {k2 : List Cn} {k3 : List En} {A1 A2 A3 : Option Addr} {c1 c2 c3 : Nat}
theorem PaI.below (h : PaI v r k1 k2 k3 A1 c1 A2 c2 A3 c3 W) (hb : Below W.heap.size W W') : PaI v r k1 k2 k3 A1 c1 A2 c2 A3 c3 W' :=
 ⟨h.bel.trans (hb.mono h.bel.size), (hb.block _ (blkX h.rng)).trans h.rng, (hb.block _ (blkX h.res)).trans h.res, (hb.block _ (blkX h.pbx)).trans h.pbx, own_by h.o1 fun _ _ _ q => hb.block _ (blkX q), own_by h.o2 fun _ _ _ q => hb.block _ (blkX q), own_by h.o3 fun _ _ _ q => hb.block _ (blkX q)⟩
theorem far_block {W : World} {p : Addr} {u : Value} {k : Nat} {cs ds : Array Value} {t t' : TypeId} {f f' : Nat × Nat} (h : W.heap[k]? = some (.cells cs t f)) (hp : W.heap[p.block]? = some (.cells ds t' f')) (ht : t ≠ t') : (W.setCell p u).heap[k]? = W.heap[k]? := hpFar (ne_cells h hp ht)
theorem PaI.keys (h : PaI v r [] k2 k3 none 0 A2 c2 A3 c3 W) {ks : List ByteArray} {A : Option Addr} {c : Nat} (ho : W.ownsRow v.heap.size 9 1 (.slice A ks.length c) ks.length (flat encS1 ks)) : PaI v r ks k2 k3 A c A2 c2 A3 c3 (W.setCell ⟨v.heap.size + 2, 0, none⟩ (.slice A ks.length c)) :=
 ⟨h.bel.setCell (by simp only; omega) _, (hpFar (by simp only; omega)).trans h.rng, (hpFar (by simp only; omega)).trans h.res, hpSet (i := 0) (v := .slice A ks.length c) h.pbx, own_by ho fun _ _ _ q => far_block q h.pbx (by decide), own_by h.o2 fun _ _ _ q => far_block q h.pbx (by decide), own_by h.o3 fun _ _ _ q => far_block q h.pbx (by decide)⟩
theorem PaI.app2 (h : PaI v r k1 k2 k3 A1 c1 A2 c2 A3 c3 W) {y : Cn} {lb : Nat} (hl : W.heap[lb]? = some (.cells #[.int .i64 y.1, .int .i64 y.2.1, .int .i64 y.2.2.1, .int .i64 y.2.2.2.1, .int .i64 y.2.2.2.2] 58 (0, 0))) (hn : k2.length ≤ 100000) :
  ∃ A' c' V, (appSem #[44, 44] 44 #[.slice A2 k2.length c2, .slice (some ⟨lb, 0, none⟩) 1 1]).run Tryz.prog W = .ok (.slice A' (k2.length + 1) c') V ∧ V.heap[v.heap.size + 2]? = W.heap[v.heap.size + 2]? ∧ PaI v r k1 (k2 ++ [y]) k3 A1 c1 A' c' A3 c3 (V.setCell ⟨v.heap.size + 2, 1, none⟩ (.slice A' (k2.length + 1) c')) := by
 obtain ⟨A', c', V, hrun, -, hown, hgr, hat⟩ := append_sl elemC encC_len encC_one (ty := 44) (d := 1) h.o2 h.bel.size (sl_one encC_len (x := y) hl rfl) (by omega) (by omega)
 have hk : ∀ (k : Nat) (cs : Array Value) (t : TypeId) (f : Nat × Nat), W.heap[k]? = some (.cells cs t f) → t ≠ 58 → V.heap[k]? = W.heap[k]? := fun k cs t f q ht => hgr.block k (blkX q) fun e => by
  obtain ⟨ds, hd⟩ := row_cells h.o2 e.symm
  exact ne_cells q hd ht rfl
 have hp := (hk _ _ _ _ h.pbx (by decide)).trans h.pbx
 have hb := h.bel.trans (below_of_grown hgr h.bel.size fun g e => (own_row h.o2 g e).1)
 refine ⟨A', c', V, hrun, hk _ _ _ _ h.pbx (by decide), hb.setCell (by simp only; omega) _, (hpFar (by simp only; omega)).trans ((hk _ _ _ _ h.rng (by decide)).trans h.rng), (hpFar (by simp only; omega)).trans ((hk _ _ _ _ h.res (by decide)).trans h.res), ?_, own_by (own_by h.o1 fun _ _ _ q => hk _ _ _ _ q (by decide)) fun _ _ _ q => far_block q hp (by decide), ?_, own_by (own_by h.o3 fun _ _ _ q => hk _ _ _ _ q (by decide)) fun _ _ _ q => far_block q hp (by decide)⟩
 ·
  rw [List.length_append]
  exact hpSet (i := 1) (v := .slice A' (k2.length + 1) c') hp
 ·
  rw [List.length_append]
  exact own_by hown fun _ _ _ q => far_block q hp (by decide)
theorem PaI.app3 (h : PaI v r k1 k2 k3 A1 c1 A2 c2 A3 c3 W) {y : En} {lb : Nat} (hl : W.heap[lb]? = some (.cells #[.int .i64 y.e.1, .int .i64 y.e.2.1, .int .i64 y.e.2.2, .string y.k, .int .i64 y.r.1, .int .i64 y.r.2.1, .string y.r.2.2] 101 (0, 0))) (hn : k3.length ≤ 100000) :
  ∃ A' c' V, (appSem #[45, 45] 45 #[.slice A3 k3.length c3, .slice (some ⟨lb, 0, none⟩) 1 1]).run Tryz.prog W = .ok (.slice A' (k3.length + 1) c') V ∧ V.heap[v.heap.size + 2]? = W.heap[v.heap.size + 2]? ∧ PaI v r k1 k2 (k3 ++ [y]) A1 c1 A2 c2 A' c' (V.setCell ⟨v.heap.size + 2, 2, none⟩ (.slice A' (k3.length + 1) c')) ∧ ∀ (k : Nat) (cs : Array Value) (f : Nat × Nat), W.heap[k]? = some (.cells cs 30 f) → (V.setCell ⟨v.heap.size + 2, 2, none⟩ (.slice A' (k3.length + 1) c')).heap[k]? = W.heap[k]? := by
 obtain ⟨A', c', V, hrun, -, hown, hgr, hat⟩ := append_sl elemM encM_len encM_one (ty := 45) (d := 1) h.o3 h.bel.size (sl_one encM_len (x := y) hl rfl) (by omega) (by omega)
 have hk : ∀ (k : Nat) (cs : Array Value) (t : TypeId) (f : Nat × Nat), W.heap[k]? = some (.cells cs t f) → t ≠ 101 → V.heap[k]? = W.heap[k]? := fun k cs t f q ht => hgr.block k (blkX q) fun e => by
  obtain ⟨ds, hd⟩ := row_cells h.o3 e.symm
  exact ne_cells q hd ht rfl
 have hp := (hk _ _ _ _ h.pbx (by decide)).trans h.pbx
 have hb := h.bel.trans (below_of_grown hgr h.bel.size fun g e => (own_row h.o3 g e).1)
 refine ⟨A', c', V, hrun, hk _ _ _ _ h.pbx (by decide), ⟨hb.setCell (by simp only; omega) _, (hpFar (by simp only; omega)).trans ((hk _ _ _ _ h.rng (by decide)).trans h.rng), (hpFar (by simp only; omega)).trans ((hk _ _ _ _ h.res (by decide)).trans h.res), ?_, own_by (own_by h.o1 fun _ _ _ q => hk _ _ _ _ q (by decide)) fun _ _ _ q => far_block q hp (by decide), own_by (own_by h.o2 fun _ _ _ q => hk _ _ _ _ q (by decide)) fun _ _ _ q => far_block q hp (by decide), ?_⟩, fun k cs f q => ?_⟩
 ·
  rw [List.length_append]
  exact hpSet (i := 2) (v := .slice A' (k3.length + 1) c') hp
 ·
  rw [List.length_append]
  exact own_by hown fun _ _ _ q => far_block q hp (by decide)
 ·
  exact (far_block ((hk _ _ _ _ q (by decide)).trans q) hp (by decide)).trans (hk _ _ _ _ q (by decide))
theorem PaI.fin {kv : Ct} (h : PaI v r (kv.map (·.1)) (kv.map (·.2)) k3 A1 c1 A2 c2 A3 c3 W) (a b c : Value) : ParW v kv k3 A1 c1 A2 c2 A3 c3 (((W.setCell ⟨v.heap.size + 1, 0, none⟩ a).setCell ⟨v.heap.size + 1, 1, none⟩ b).setCell ⟨v.heap.size + 1, 2, none⟩ c) := by
 have hf : ∀ (k : Nat) (cs : Array Value) (t : TypeId), W.heap[k]? = some (.cells cs t (0, 0)) → t ≠ 81 → (((W.setCell ⟨v.heap.size + 1, 0, none⟩ a).setCell ⟨v.heap.size + 1, 1, none⟩ b).setCell ⟨v.heap.size + 1, 2, none⟩ c).heap[k]? = W.heap[k]? := fun k cs t q ht => by
  have hn : k ≠ v.heap.size + 1 := ne_cells q h.res ht
  exact (hpFar (by simp only; exact hn)).trans ((hpFar (by simp only; exact hn)).trans (hpFar (by simp only; exact hn)))
 have o1 := own_by h.o1 fun k cs _ q => hf k cs _ q (by decide)
 have o2 := own_by h.o2 fun k cs _ q => hf k cs _ q (by decide)
 have o3 := own_by h.o3 fun k cs _ q => hf k cs _ q (by decide)
 simp only [List.length_map] at o1 o2
 exact ⟨((h.bel.setCell (by simp only; omega) _).setCell (by simp only; omega) _).setCell (by simp only; omega) _, o1, o2, o3⟩
end
end Go.Proofs.YtgnjnpddehdmcaaGreatDoor

namespace Go.Proofs.YtgnjnpddehdmcaaGreatDoor
open Go.RowKit Go.Shelf
set_option linter.unusedSimpArgs false
set_option linter.unusedVariables false
set_option linter.unusedSectionVars false
set_option maxRecDepth 10000
theorem cd_load {c : Cd} {W : World} {b : Nat} (h : W.heap[b]? = some (.cells (cdV c) 40 (0, 0))) : (Instr.loadAt 40 (.pointer (some ⟨b, 0, none⟩))).run Tryz.prog W = .ok (.agg (cdV c)) W := by
 have := run_loadAt_mid (P := Tryz.prog) W b 0 40 (cdV c).toList _ (fun j v hv => by
  rw [Nat.zero_add]
  refine (blkC h j).trans ?_
  rw [← Array.getElem?_toList]; exact hv) Tryz.underlying40 rfl (by
   rw [show (cdV c).toList.length = 24 from rfl]
   kernel_rfl)
 simpa using this
theorem loadAt_other (t : TypeId) (p : Value) (h : (t == 40) = false) : Instr.loadAt t p = (do loadVar t (← Instr.sureAddr p)) := rfl
theorem joinArms {F : World → Nat → Prop} {G : World → Nat → Prop} {X : Prop} (main : (∀ V ab, F V ab → G V ab) → X) (pf : ∀ V ab, F V ab → G V ab) : X := main pf
theorem tk {P : Program} {md : Region.Mode} {ops : Array Oper} {Q : Exit → Act → World → Prop} {S : World → Prop} {i : Nat} {oi : Oper} {v : Value} {fuel : Nat} {listed l' : Array Bool} {a a' : Act} {w : World} (hi : ops[i]? = some oi := by rfl)
  (hs : Region.noSelect ops = true := by kernel_rfl) (hf : Region.free md ops listed i = true := by kernel_rfl) (hr : (Region.ready md ops listed).contains i = true := by kernel_rfl)
  (hQ : ∀ c a w, Q (.panic c) (a.put oi.dst v) w → Q (.panic c) a w := by exact fun _ _ _ h => h) (hy : YieldsIf P ops S oi v a) (hS : S w)
  (hl : listed.setIfInBounds i true = l' := by first | (simp only [List.setIfInBounds_toArray, List.set_cons_zero, List.set_cons_succ]; rfl) | rfl)
  (ha : a.put oi.dst v = a' := by simp only [List.getElem_toArray, List.getElem_cons_succ, List.getElem_cons_zero, Act.put, List.setIfInBounds_toArray, List.set_cons_zero, List.set_cons_succ]; rfl)
  (h : wpAnyH P md ops Q S fuel l' a' w) : wpAnyH P md ops Q S (fuel + 1) listed a w := by
 subst hl; subst ha
 exact wpAnyH_take hi hs hf hr hQ hy hS h
theorem tl {P : Program} {md : Region.Mode} {ops : Array Oper} {Q : Exit → Act → World → Prop} {S : World → Prop} (i : Nat) {oi : Oper} {v : Value} {fuel : Nat} {listed l' : Array Bool} {a a' : Act} {w : World} (hS : S w) (h : wpAnyH P md ops Q S fuel l' a' w) (hi : ops[i]? = some oi := by rfl)
    (hs : Region.noSelect ops = true := by kernel_rfl) (hf : Region.free md ops listed i = true := by kernel_rfl) (hr : (Region.ready md ops listed).contains i = true := by kernel_rfl)
    (hQ : ∀ c a w, Q (.panic c) (a.put oi.dst v) w → Q (.panic c) a w := by exact fun _ _ _ h => h) (hy : YieldsIf P ops S oi v a := by exact .inl ⟨by rfl, by intro w hSw; go_simp; first | done | with_reducible rfl⟩)
    (hl : listed.setIfInBounds i true = l' := by first | (simp only [List.setIfInBounds_toArray, List.set_cons_zero, List.set_cons_succ]; rfl) | rfl)
    (ha : a.put oi.dst v = a' := by simp only [List.getElem_toArray, List.getElem_cons_succ, List.getElem_cons_zero, Act.put, List.setIfInBounds_toArray, List.set_cons_zero, List.set_cons_succ]; rfl)
    : wpAnyH P md ops Q S (fuel + 1) listed a w := tk (hi := hi) (hs := hs) (hf := hf) (hr := hr) (hQ := hQ) (hy := hy) (hS := hS) (hl := hl) (ha := ha) (h := h)
theorem ts {P : Program} {md : Region.Mode} {ops : Array Oper} {Q : Exit → Act → World → Prop} {S : World → Prop} (i : Nat) {oi : Oper} {fuel : Nat} {listed l' : Array Bool} {a a' : Act} {w : World} (hS : S w) (h : wpAnyH P md ops Q S fuel l' a' w) (hi : ops[i]? = some oi := by rfl)
    (hs : Region.noSelect ops = true := by kernel_rfl) (hf : Region.free md ops listed i = true := by kernel_rfl) (hr : (Region.ready md ops listed).contains i = true := by kernel_rfl)
    (hQ : ∀ c a w, Q (.panic c) (a.put oi.dst undef) w → Q (.panic c) a w := by exact fun _ _ _ h => h) (hy : YieldsIf P ops S oi undef a := by exact .inr ⟨by rfl, rfl⟩)
    (hl : listed.setIfInBounds i true = l' := by first | (simp only [List.setIfInBounds_toArray, List.set_cons_zero, List.set_cons_succ]; rfl) | rfl)
    (ha : a.put oi.dst undef = a' := by simp only [List.getElem_toArray, List.getElem_cons_succ, List.getElem_cons_zero, Act.put, List.setIfInBounds_toArray, List.set_cons_zero, List.set_cons_succ]; rfl)
    : wpAnyH P md ops Q S (fuel + 1) listed a w := tk (hi := hi) (hs := hs) (hf := hf) (hr := hr) (hQ := hQ) (hy := hy) (hS := hS) (hl := hl) (ha := ha) (h := h)
structure Found (W1 : World) (T : TypeId) (r : Rp) (V : World) (ab : Nat) : Prop where
 bel : Below W1.heap.size W1 V
 ge : W1.heap.size ≤ ab
 blk : V.heap[ab]? = some (.cells #[.int .i64 r.1, .int .i64 r.2.1, .string r.2.2] T (0, 0))
theorem found_store {W1 V : World} {ab : Nat} {cs : Array Value} {T : TypeId} (hb : Below W1.heap.size W1 V) (hge : W1.heap.size ≤ ab) (h : V.heap[ab]? = some (.cells cs T (0, 0))) (hs : cs.size = 3) (r : Rp) :
  Found W1 T r (((V.setCell ⟨ab, 0, none⟩ (.int .i64 r.1)).setCell ⟨ab, 1, none⟩ (.int .i64 r.2.1)).setCell ⟨ab, 2, none⟩ (.string r.2.2)) ab := by
 refine ⟨((hb.setCell (p := ⟨ab, 0, none⟩) hge _).setCell (p := ⟨ab, 1, none⟩) hge _).setCell (p := ⟨ab, 2, none⟩) hge _, hge, ?_⟩
 have h3 := hpSet (i := 2) (v := .string r.2.2) (hpSet (i := 1) (v := .int .i64 r.2.1) (hpSet (i := 0) (v := .int .i64 r.1) h))
 rw [h3]
 congr 2
 have : cs = #[cs[0]'(by omega), cs[1]'(by omega), cs[2]'(by omega)] := by
  apply Array.ext
  ·
   simpa using hs
  ·
   intro i h1 h2
   have : i = 0 ∨ i = 1 ∨ i = 2 := by simp at h2; omega
   rcases this with rfl | rfl | rfl <;> rfl
 rw [this]
 simp
end Go.Proofs.YtgnjnpddehdmcaaGreatDoor

namespace Go.Proofs.YtgnjnpddehdmcaaGreatDoor
open Go.RowKit Go.Sort
set_option linter.unusedSimpArgs false
set_option linter.unusedVariables false
section
variable {α : Type} [Inhabited α] {enc : α → List Value} {k : Nat}
theorem flatK_flat (hk : ∀ x, (enc x).length = k) (hp : 0 < k) (l : List α) : flatK enc k l.toArray = (flat enc l).toArray := by
 refine ext_get! (by simp [flat_length hk]) fun t ht => ?_
 have ht' : t < l.length * k := by simpa using ht
 rw [get_flatK enc k _ t (by simpa using ht')]
 have hi : t / k < l.length := Nat.div_lt_of_lt_mul (by rw [Nat.mul_comm]; exact ht')
 have hx : l[t / k]? = some l[t / k] := List.getElem?_eq_getElem hi
 have h1 := flat_get hk l (t / k) _ (t % k) hx (Nat.mod_lt _ hp)
 rw [show t / k * k + t % k = t from by rw [Nat.mul_comm]; exact Nat.div_add_mod t k] at h1
 have h2 : l.toArray[t / k]! = l[t / k] := by simp [hi]
 rw [h2]
 have h3 : t % k < (enc l[t / k]).length := by rw [hk]; exact Nat.mod_lt _ hp
 rw [List.getElem?_eq_getElem h3] at h1
 simp only [List.getElem!_toArray, List.getElem!_eq_getElem?_getD, h1, List.getElem?_eq_getElem h3]
theorem holdsK_of_own {W : World} {base n c g : Nat} {e : TypeId} {l : List α} (hk : ∀ x, (enc x).length = k) (hp : 0 < k) (h : W.ownsRow base e k (.slice (some ⟨g, 0, none⟩) n c) n (flat enc l)) (hl : l.length = n) : HoldsK enc k W g 0 l.toArray := by
 unfold HoldsK
 rw [flatK_flat hk hp]
 intro j hj
 have hj' : j < (flat enc l).length := by simpa using hj
 rcases h.2 with ⟨e0, _⟩ | ⟨g', cap', cur, e0, hb, hg, hn, hm, hs, ht⟩
 ·
  cases e0
 ·
  injection e0 with e1 _ e3
  injection e1 with e1
  injection e1 with e1
  subst e1; subst e3
  rw [flat_length hk, hl] at hj'
  have h1 : (cur.toList.take (n * k))[j]? = (flat enc l)[j]? := by rw [ht]
  rw [List.getElem?_take, if_pos hj'] at h1
  refine ⟨?_, by simp [World.frozen?, hg]⟩
  have h2 : (flat enc l)[j]? = some (flat enc l)[j]! := by
   rw [List.getElem!_eq_getElem?_getD, List.getElem?_eq_getElem (by rw [flat_length hk, hl]; exact hj')]; rfl
  simp only [World.cell?, hg, Nat.zero_add, id]
  rw [← Array.getElem?_toList, h1, h2]
  simp
theorem own_putRowK {W : World} {base n c g q : Nat} {e : TypeId} {l l' : List α} (hk : ∀ x, (enc x).length = k) (hp : 0 < k) (h : W.ownsRow base e k (.slice (some ⟨g, 0, none⟩) n c) n (flat enc l)) (hl' : l'.length = n) :
  (putRowK enc k (Sort.ahead W q) g 0 l'.toArray).ownsRow base e k (.slice (some ⟨g, 0, none⟩) n c) n (flat enc l') := by
 unfold putRowK
 rw [flatK_flat hk hp]
 rcases h.2 with ⟨e0, _⟩ | ⟨g', cap', cur, e0, hb, hg, hn, hm, hs, ht⟩
 ·
  cases e0
 ·
  injection e0 with e1 _ e3
  injection e1 with e1
  injection e1 with e1
  subst e1; subst e3
  have hnk : n * k ≤ c * k := Nat.mul_le_mul_right k hn
  refine ⟨by rw [flat_length hk, hl'], .inr ⟨g, c, putCells id 0 (flat enc l').toArray cur, rfl, hb, ?_, hn, hm, by simpa [putCells] using hs, ?_⟩⟩
  ·
   simp [putRow, mapBlock, Sort.ahead, Array.getElem?_modify, hg, onCells]
  ·
   apply List.ext_getElem?
   intro j
   rw [List.getElem?_take, Array.getElem?_toList]
   by_cases hj : j < n * k
   ·
    have hjc : j < cur.size := by omega
    have hjl : j < (flat enc l').length := by rw [flat_length hk, hl']; exact hj
    simp only [if_pos hj, putCells, Array.getElem?_mapIdx, Array.getElem?_eq_getElem hjc, Option.map_some, id]
    rw [if_pos (by simp; omega), List.getElem?_eq_getElem hjl]
    simp [hjl]
   ·
    rw [if_neg hj, List.getElem?_eq_none (by rw [flat_length hk, hl']; omega)]
theorem grownBy_putRowK {W : World} {g q : Nat} (d : Array α) : W.grownBy (putRowK enc k (Sort.ahead W q) g 0 d) (some g) := by
 refine ⟨rfl, rfl, rfl, by simp [putRowK, putRow, mapBlock, Sort.ahead], fun j hj hne => ?_⟩
 have : g ≠ j := fun e => hne (by rw [e])
 simp [putRowK, putRow, mapBlock, Sort.ahead, Array.getElem?_modify, this]
end
end Go.Proofs.YtgnjnpddehdmcaaGreatDoor
