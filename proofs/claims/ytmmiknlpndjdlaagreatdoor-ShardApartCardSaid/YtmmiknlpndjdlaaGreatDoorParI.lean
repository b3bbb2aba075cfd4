/- What parcel holds. -/
import Derived.Test.YtmmiknlpndjdlaaGreatDoorRangeG
import Derived.Test.YtmmiknlpndjdlaaGreatDoorStI
import Derived.Test.YtmmiknlpndjdlaaGreatDoorClG
namespace Go.Proofs.YtmmiknlpndjdlaaGreatDoor
open Go.RowKit Go.Shelf
set_option linter.unusedSimpArgs false
set_option linter.unusedVariables false
set_option linter.unusedSectionVars false
set_option maxRecDepth 10000
def keysR (x : Sh) (r : Rg) : Ct := x.cnt.filter fun y => hasG r y.1
def doneR (x : Sh) (r : Rg) : List En := x.mem.filter fun y => hasG r y.k
theorem encC_len (c : Cn) : (encC c).length = 5 := rfl
theorem encM_len (y : En) : (encM y).length = 7 := rfl
theorem encC_one (c : Cn) : ∀ u ∈ encC c, u.oneCell' = true := by intro u hu; simp [encC] at hu; rcases hu with rfl | rfl | rfl | rfl | rfl <;> rfl
theorem encM_one (y : En) : ∀ u ∈ encM y, u.oneCell' = true := by intro u hu; simp [encM] at hu; rcases hu with rfl | rfl | rfl | rfl | rfl | rfl | rfl <;> rfl
theorem elemC : Elem Tryz.prog 46 54 5 40 := elem_of (z := .agg #[.int .i64 0, .int .i64 0, .int .i64 0, .int .i64 0, .int .i64 0]) Tryz.underlying46 (by kernel_rfl) rfl (by omega)
theorem elemM : Elem Tryz.prog 47 79 7 72 := elem_of (z := .agg #[.int .i64 0, .int .i64 0, .int .i64 0, .string ⟨#[]⟩, .int .i64 0, .int .i64 0, .string ⟨#[]⟩]) Tryz.underlying47 (by kernel_rfl) rfl (by omega)
theorem sl_one {α : Type} {enc : α → List Value} {k : Nat} (hk : ∀ x, (enc x).length = k) {W : World} {g : Nat} {x : α} {T : TypeId} {cs : Array Value} (h : W.heap[g]? = some (.cells cs T (0, 0))) (hc : cs = (enc x).toArray) : SL enc k W (some ⟨g, 0, none⟩) 1 [x] := by
 subst hc
 refine ⟨rfl, fun _ => ⟨g, 0, rfl, blkX h, fun i y hx j u hu => ?_⟩⟩
 have hi : i = 0 := by have := (List.getElem?_eq_some_iff.1 hx).1; simp at this; omega
 subst hi
 simp at hx; subst hx
 have q := blkC h j
 rw [List.getElem?_toArray, hu] at q
 simpa using q
theorem own_by {W W' : World} {B n c sz : Nat} {e : TypeId} {A : Option Addr} {xs : List Value} (h : W.ownsRow B e sz (.slice A n c) n xs) (hk : ∀ k cs, B ≤ k → W.heap[k]? = some (.cells cs e (0, 0)) → W'.heap[k]? = W.heap[k]?) : W'.ownsRow B e sz (.slice A n c) n xs :=
 ⟨h.1, h.2.imp id fun ⟨g, cap, cur, e1, e2, hh, r⟩ => ⟨g, cap, cur, e1, e2, (hk g _ e2 hh).trans hh, r⟩⟩
theorem own_row_re {w : World} {base base' n c sz : Nat} {e : TypeId} {A : Option Addr} {xs : List Value} (h : w.ownsRow base e sz (.slice A n c) n xs) (hb : base' ≤ base) : w.ownsRow base' e sz (.slice A n c) n xs :=
 ⟨h.1, h.2.imp id fun ⟨g, cap, cur, e1, e2, r⟩ => ⟨g, cap, cur, e1, Nat.le_trans hb e2, r⟩⟩
theorem joinArm {α : Type} {F G : α → Prop} {X : Prop} (main : (∀ V, F V → G V) → X) (pf : ∀ V, F V → G V) : X := main pf
theorem SL.same {α : Type} {enc : α → List Value} {k : Nat} {w w' : World} {A : Option Addr} {n : Nat} {l : List α} (h : SL enc k w A n l) (hk : ∀ g, rowOf A = some g → g < w.heap.size → g < w'.heap.size ∧ w'.heap[g]? = w.heap[g]?) : SL enc k w' A n l :=
 ⟨h.1, fun hn => by
  obtain ⟨b, o, rfl, hl, hc⟩ := h.2 hn
  exact ⟨b, o, rfl, (hk b rfl hl).1, fun i x hx j u hu => (World.cell?_of_block (w := w) ((hk b rfl hl).2)).trans (hc i x hx j u hu)⟩⟩
structure RowE (B : Option Addr) (n : Nat) (l : List Ef) (W : World) : Prop where
 es : ES W B n l
 row : ∀ g, rowOf B = some g → ∃ cs, W.heap[g]? = some (.cells cs 29 (0, 0))
theorem RowE.same {B : Option Addr} {n : Nat} {l : List Ef} {W W' : World} (h : RowE B n l W) (hk : ∀ (k : Nat) (cs : Array Value) (f : Nat × Nat), W.heap[k]? = some (.cells cs 29 f) → W'.heap[k]? = W.heap[k]?) : RowE B n l W' :=
 ⟨h.es.same fun g hg _ => by obtain ⟨cs, hc⟩ := h.row g hg; have := hk _ _ _ hc; exact ⟨blkX (this.trans hc), this⟩, fun g hg => by obtain ⟨cs, hc⟩ := h.row g hg; exact ⟨cs, (hk _ _ _ hc).trans hc⟩⟩
theorem RowE.below {B : Option Addr} {n : Nat} {l : List Ef} {W W' : World} (h : RowE B n l W) (hb : Below W.heap.size W W') : RowE B n l W' := h.same fun k cs f q => hb.block _ (blkX q)
structure ParW (v : World) (kv : Ct) (ds : List En) (A1 : Option Addr) (c1 : Nat) (A2 : Option Addr) (c2 : Nat) (A3 : Option Addr) (c3 : Nat) (W : World) : Prop where
 bel : Below v.heap.size v W
 o1 : W.ownsRow v.heap.size 9 1 (.slice A1 kv.length c1) kv.length (flat encS1 (kv.map (·.1)))
 o2 : W.ownsRow v.heap.size 54 5 (.slice A2 kv.length c2) kv.length (flat encC (kv.map (·.2)))
 o3 : W.ownsRow v.heap.size 79 7 (.slice A3 ds.length c3) ds.length (flat encM ds)
structure PaI (v : World) (r : Rg) (k1 : List ByteArray) (k2 : List Cn) (k3 : List En) (A1 : Option Addr) (c1 : Nat) (A2 : Option Addr) (c2 : Nat) (A3 : Option Addr) (c3 : Nat) (W : World) : Prop where
 bel : Below v.heap.size v W
 rng : W.heap[v.heap.size]? = some (.cells #[.string r.1, .string r.2] 31 (0, 0))
 res : W.heap[v.heap.size + 1]? = some (.cells #[.slice none 0 0, .slice none 0 0, .slice none 0 0] 81 (0, 0))
 pbx : W.heap[v.heap.size + 2]? = some (.cells #[.slice A1 k1.length c1, .slice A2 k2.length c2, .slice A3 k3.length c3] 81 (0, 0))
 o1 : W.ownsRow v.heap.size 9 1 (.slice A1 k1.length c1) k1.length (flat encS1 k1)
 o2 : W.ownsRow v.heap.size 54 5 (.slice A2 k2.length c2) k2.length (flat encC k2)
 o3 : W.ownsRow v.heap.size 79 7 (.slice A3 k3.length c3) k3.length (flat encM k3)
section
variable {v W W' : World} {r : Rg} {k1 : List ByteArray} {k2 : List Cn} {k3 : List En} {A1 A2 A3 : Option Addr} {c1 c2 c3 : Nat}
theorem PaI.below (h : PaI v r k1 k2 k3 A1 c1 A2 c2 A3 c3 W) (hb : Below W.heap.size W W') : PaI v r k1 k2 k3 A1 c1 A2 c2 A3 c3 W' :=
 ⟨h.bel.trans (hb.mono h.bel.size), (hb.block _ (blkX h.rng)).trans h.rng, (hb.block _ (blkX h.res)).trans h.res, (hb.block _ (blkX h.pbx)).trans h.pbx, own_by h.o1 fun _ _ _ q => hb.block _ (blkX q), own_by h.o2 fun _ _ _ q => hb.block _ (blkX q), own_by h.o3 fun _ _ _ q => hb.block _ (blkX q)⟩
theorem far_block {W : World} {p : Addr} {u : Value} {k : Nat} {cs ds : Array Value} {t t' : TypeId} {f f' : Nat × Nat} (h : W.heap[k]? = some (.cells cs t f)) (hp : W.heap[p.block]? = some (.cells ds t' f')) (ht : t ≠ t') : (W.setCell p u).heap[k]? = W.heap[k]? := hpFar (ne_cells h hp ht)
theorem PaI.keys (h : PaI v r [] k2 k3 none 0 A2 c2 A3 c3 W) {ks : List ByteArray} {A : Option Addr} {c : Nat} (ho : W.ownsRow v.heap.size 9 1 (.slice A ks.length c) ks.length (flat encS1 ks)) : PaI v r ks k2 k3 A c A2 c2 A3 c3 (W.setCell ⟨v.heap.size + 2, 0, none⟩ (.slice A ks.length c)) :=
 ⟨h.bel.setCell (by simp only; omega) _, (hpFar (by simp only; omega)).trans h.rng, (hpFar (by simp only; omega)).trans h.res, hpSet (i := 0) (v := .slice A ks.length c) h.pbx, own_by ho fun _ _ _ q => far_block q h.pbx (by decide), own_by h.o2 fun _ _ _ q => far_block q h.pbx (by decide), own_by h.o3 fun _ _ _ q => far_block q h.pbx (by decide)⟩
theorem PaI.app2 (h : PaI v r k1 k2 k3 A1 c1 A2 c2 A3 c3 W) {y : Cn} {lb : Nat} (hl : W.heap[lb]? = some (.cells #[.int .i64 y.1, .int .i64 y.2.1, .int .i64 y.2.2.1, .int .i64 y.2.2.2.1, .int .i64 y.2.2.2.2] 54 (0, 0))) (hn : k2.length ≤ 100000) :
  ∃ A' c' V, (appSem #[46, 46] 46 #[.slice A2 k2.length c2, .slice (some ⟨lb, 0, none⟩) 1 1]).run Tryz.prog W = .ok (.slice A' (k2.length + 1) c') V ∧ V.heap[v.heap.size + 2]? = W.heap[v.heap.size + 2]? ∧ PaI v r k1 (k2 ++ [y]) k3 A1 c1 A' c' A3 c3 (V.setCell ⟨v.heap.size + 2, 1, none⟩ (.slice A' (k2.length + 1) c')) := by
 obtain ⟨A', c', V, hrun, -, hown, hgr, hat⟩ := append_sl elemC encC_len encC_one (ty := 46) (d := 1) h.o2 h.bel.size (sl_one encC_len (x := y) hl rfl) (by omega) (by omega)
 have hk : ∀ (k : Nat) (cs : Array Value) (t : TypeId) (f : Nat × Nat), W.heap[k]? = some (.cells cs t f) → t ≠ 54 → V.heap[k]? = W.heap[k]? := fun k cs t f q ht => hgr.block k (blkX q) fun e => by
  obtain ⟨ds, hd⟩ := row_cells h.o2 e.symm
  exact ne_cells q hd ht rfl
 have hp := (hk _ _ _ _ h.pbx (by decide)).trans h.pbx
 have hb := h.bel.trans (below_of_grown hgr h.bel.size fun g e => (own_row h.o2 g e).1)
 refine ⟨A', c', V, hrun, hk _ _ _ _ h.pbx (by decide), hb.setCell (by simp only; omega) _, (hpFar (by simp only; omega)).trans ((hk _ _ _ _ h.rng (by decide)).trans h.rng), (hpFar (by simp only; omega)).trans ((hk _ _ _ _ h.res (by decide)).trans h.res), ?_, own_by (own_by h.o1 fun _ _ _ q => hk _ _ _ _ q (by decide)) fun _ _ _ q => far_block q hp (by decide), ?_, own_by (own_by h.o3 fun _ _ _ q => hk _ _ _ _ q (by decide)) fun _ _ _ q => far_block q hp (by decide)⟩
 ·
  rw [List.length_append]
  exact hpSet (i := 1) (v := .slice A' (k2.length + 1) c') hp
 ·
  rw [List.length_append]
  exact own_by hown fun _ _ _ q => far_block q hp (by decide)
theorem PaI.app3 (h : PaI v r k1 k2 k3 A1 c1 A2 c2 A3 c3 W) {y : En} {lb : Nat} (hl : W.heap[lb]? = some (.cells #[.int .i64 y.e.1, .int .i64 y.e.2.1, .int .i64 y.e.2.2, .string y.k, .int .i64 y.r.1, .int .i64 y.r.2.1, .string y.r.2.2] 79 (0, 0))) (hn : k3.length ≤ 100000) :
  ∃ A' c' V, (appSem #[47, 47] 47 #[.slice A3 k3.length c3, .slice (some ⟨lb, 0, none⟩) 1 1]).run Tryz.prog W = .ok (.slice A' (k3.length + 1) c') V ∧ V.heap[v.heap.size + 2]? = W.heap[v.heap.size + 2]? ∧ PaI v r k1 k2 (k3 ++ [y]) A1 c1 A2 c2 A' c' (V.setCell ⟨v.heap.size + 2, 2, none⟩ (.slice A' (k3.length + 1) c')) ∧ ∀ (k : Nat) (cs : Array Value) (f : Nat × Nat), W.heap[k]? = some (.cells cs 29 f) → (V.setCell ⟨v.heap.size + 2, 2, none⟩ (.slice A' (k3.length + 1) c')).heap[k]? = W.heap[k]? := by
 obtain ⟨A', c', V, hrun, -, hown, hgr, hat⟩ := append_sl elemM encM_len encM_one (ty := 47) (d := 1) h.o3 h.bel.size (sl_one encM_len (x := y) hl rfl) (by omega) (by omega)
 have hk : ∀ (k : Nat) (cs : Array Value) (t : TypeId) (f : Nat × Nat), W.heap[k]? = some (.cells cs t f) → t ≠ 79 → V.heap[k]? = W.heap[k]? := fun k cs t f q ht => hgr.block k (blkX q) fun e => by
  obtain ⟨ds, hd⟩ := row_cells h.o3 e.symm
  exact ne_cells q hd ht rfl
 have hp := (hk _ _ _ _ h.pbx (by decide)).trans h.pbx
 have hb := h.bel.trans (below_of_grown hgr h.bel.size fun g e => (own_row h.o3 g e).1)
 refine ⟨A', c', V, hrun, hk _ _ _ _ h.pbx (by decide), ⟨hb.setCell (by simp only; omega) _, (hpFar (by simp only; omega)).trans ((hk _ _ _ _ h.rng (by decide)).trans h.rng), (hpFar (by simp only; omega)).trans ((hk _ _ _ _ h.res (by decide)).trans h.res), ?_, own_by (own_by h.o1 fun _ _ _ q => hk _ _ _ _ q (by decide)) fun _ _ _ q => far_block q hp (by decide), own_by (own_by h.o2 fun _ _ _ q => hk _ _ _ _ q (by decide)) fun _ _ _ q => far_block q hp (by decide), ?_⟩, fun k cs f q => ?_⟩
 ·
  rw [List.length_append]
  exact hpSet (i := 2) (v := .slice A' (k3.length + 1) c') hp
 ·
  rw [List.length_append]
  exact own_by hown fun _ _ _ q => far_block q hp (by decide)
 ·
  exact (far_block ((hk _ _ _ _ q (by decide)).trans q) hp (by decide)).trans (hk _ _ _ _ q (by decide))
theorem PaI.fin {kv : Ct} (h : PaI v r (kv.map (·.1)) (kv.map (·.2)) k3 A1 c1 A2 c2 A3 c3 W) (a b c : Value) : ParW v kv k3 A1 c1 A2 c2 A3 c3 (((W.setCell ⟨v.heap.size + 1, 0, none⟩ a).setCell ⟨v.heap.size + 1, 1, none⟩ b).setCell ⟨v.heap.size + 1, 2, none⟩ c) := by
 have hf : ∀ (k : Nat) (cs : Array Value) (t : TypeId), W.heap[k]? = some (.cells cs t (0, 0)) → t ≠ 81 → (((W.setCell ⟨v.heap.size + 1, 0, none⟩ a).setCell ⟨v.heap.size + 1, 1, none⟩ b).setCell ⟨v.heap.size + 1, 2, none⟩ c).heap[k]? = W.heap[k]? := fun k cs t q ht => by
  have hn : k ≠ v.heap.size + 1 := ne_cells q h.res ht
  exact (hpFar (by simp only; exact hn)).trans ((hpFar (by simp only; exact hn)).trans (hpFar (by simp only; exact hn)))
 have o1 := own_by h.o1 fun k cs _ q => hf k cs _ q (by decide)
 have o2 := own_by h.o2 fun k cs _ q => hf k cs _ q (by decide)
 have o3 := own_by h.o3 fun k cs _ q => hf k cs _ q (by decide)
 simp only [List.length_map] at o1 o2
 exact ⟨((h.bel.setCell (by simp only; omega) _).setCell (by simp only; omega) _).setCell (by simp only; omega) _, o1, o2, o3⟩
end
end Go.Proofs.YtmmiknlpndjdlaaGreatDoor
