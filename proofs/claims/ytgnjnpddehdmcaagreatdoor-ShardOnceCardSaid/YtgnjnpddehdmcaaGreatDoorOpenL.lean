/- Lists of ranges with counters, and of commands, as arguments. -/
import Derived.Test.YtgnjnpddehdmcaaGreatDoorWkP
import Derived.Test.YtgnjnpddehdmcaaGreatDoorWkW
import Derived.Test.YtgnjnpddehdmcaaGreatDoorEqu
import Derived.Test.YtgnjnpddehdmcaaGreatDoorRows
import Derived.Deep.Slices
import Derived.Deep.Fields
import Derived.ChangeSame
import Derived.SizedLaws
import Derived.OpenShut
import Derived.ChangeSlices
import Derived.Test.YtgnjnpddehdmcaaGreatDoorShort
import Derived.Lib.SmallJoins
import Derived.ChangeOld
import Derived.Deep.Strs
namespace Go.Proofs.YtgnjnpddehdmcaaGreatDoor
open Go.RowKit Go.Shelf
set_option linter.unusedSimpArgs false
set_option linter.unusedVariables false
set_option linter.unusedSectionVars false
set_option maxRecDepth 10000
structure Two (v : World) (b2 : Nat) (p q : Pl) (x y : Sh) (W : World) : Prop where
 bel : Below v.heap.size v W
 s : ShW v.heap.size p x W
 r : ShW b2 q y W
 vb : v.heap.size ≤ b2
 bw : b2 ≤ W.heap.size
 dis : ∀ k, p.foot k → ¬ q.foot k
section
variable {v W W' : World} {b2 : Nat} {p p' q q' : Pl} {x x' y y' : Sh}
theorem Two.below (h : Two v b2 p q x y W) (hb : Below W.heap.size W W') : Two v b2 p q x y W' :=
 ⟨h.bel.trans (hb.mono h.bel.size), h.s.below hb, h.r.below hb, h.vb, Nat.le_trans h.bw hb.size, h.dis⟩
theorem Two.sTo (h : Two v b2 p q x y W) (ht : ShTo v.heap.size p p' x' W W') : Two v b2 p' q x' y W' :=
 ⟨Chg.belowAfter h.bel ht.chg h.bel.size fun k hk q => by have := (h.s.foot_lt k q).1; omega, ht.sh, h.r.chg ht.chg fun k hk hp => h.dis k hp hk, h.vb, Nat.le_trans h.bw ht.chg.size,
  fun k hk hq => (ht.new k hk).elim (fun hp => h.dis k hp hq) fun hg => by have := (h.r.foot_lt k hq).2; omega⟩
theorem foot_free {base : Nat} {p : Pl} {x : Sh} {W : World} (h : ShW base p x W) {k : Nat} {cs : Array Value} {T : TypeId} {f : Nat × Nat} (hk : W.heap[k]? = some (.cells cs T f)) (ht : T ≠ 88 ∧ T ≠ 156 ∧ T ≠ 153 ∧ T ≠ 32 ∧ T ≠ 125) : ¬ p.foot k :=
 h.not_foot hk ht.1 ht.2.1 ht.2.2.1 ht.2.2.2.1 ht.2.2.2.2
theorem ShTo.cells {base : Nat} (ht : ShTo base p p' x' W W') (h : ShW base p x W) {k : Nat} {cs : Array Value} {T : TypeId} {f : Nat × Nat} (hk : W.heap[k]? = some (.cells cs T f)) (hT : T ≠ 88 ∧ T ≠ 156 ∧ T ≠ 153 ∧ T ≠ 32 ∧ T ≠ 125) : W'.heap[k]? = some (.cells cs T f) := ht.blk hk (foot_free h hk hT)
theorem Two.set (h : Two v b2 p q x y W) {k : Nat} {cs : Array Value} {T : TypeId} {f : Nat × Nat} (hk : W.heap[k]? = some (.cells cs T f)) (hv : v.heap.size ≤ k) (ht : T ≠ 88 ∧ T ≠ 156 ∧ T ≠ 153 ∧ T ≠ 32 ∧ T ≠ 125) (i : Nat) (u : Value) : Two v b2 p q x y (W.setCell ⟨k, i, none⟩ u) := by
 have n1 := foot_free h.s hk ht
 have n2 := foot_free h.r hk ht
 have hc : Chg (fun j => j = k) W (W.setCell ⟨k, i, none⟩ u) := (Chg.refl (fun j => j = k) W).setCell (p := ⟨k, i, none⟩) (fun _ => rfl) u
 exact ⟨h.bel.setCell (p := ⟨k, i, none⟩) hv u, h.s.chg hc fun j hj e => n1 (e ▸ hj), h.r.chg hc fun j hj e => n2 (e ▸ hj), h.vb, by rw [World.size_setCell]; exact h.bw, h.dis⟩
end
structure Lim (j : Nat) (x : Sh) : Prop where
 mem : x.mem.length ≤ 2 * j
 own : x.own.length ≤ 8
 giv : x.giv = []
 tak : x.tak = []
 a0 : 0 ≤ x.app
 a1 : x.app ≤ j
theorem Lim.ap {j : Nat} {x : Sh} (h : Lim j x) (c : Cd) : Lim (j + 1) (apX x c) := by
 obtain ⟨h1, h2, h3, h4, h5⟩ := apX_own x c
 have hl := apX_len x c
 have := h.mem; have := h.a0; have := h.a1
 refine ⟨by omega, by rw [h1]; exact h.own, by rw [h4]; exact h.giv, by rw [h5]; exact h.tak, ?_, ?_⟩ <;> (rw [h2]; unfold incS; simp only; omega)
theorem Lim.le {j k : Nat} {x : Sh} (h : Lim j x) (hk : j ≤ k) : Lim k x := ⟨by have := h.mem; omega, h.own, h.giv, h.tak, h.a0, by have := h.a1; omega⟩
theorem Fil.lim {n : Nat} {x : Sh} (h : Fil n x) (hn : n ≤ 8) : Lim 0 x := ⟨by rw [h.mem]; simp, by have := h.len; omega, h.giv, h.tak, by rw [h.app]; omega, by rw [h.app]; omega⟩
end Go.Proofs.YtgnjnpddehdmcaaGreatDoor

namespace Go.Proofs.YtgnjnpddehdmcaaGreatDoor
open Go.RowKit Go.Shelf
set_option linter.unusedSimpArgs false
set_option linter.unusedVariables false
set_option linter.unusedSectionVars false
set_option maxRecDepth 10000
structure Adr where
 R : Option Addr
 cR : Nat
 K : Option Addr
 cK : Nat
 C : Option Addr
 cC : Nat
 M : Option Addr
 cM : Nat
 G : Option Addr
 cG : Nat
 T : Option Addr
 cT : Nat
def staV (x : Sh) (a : Adr) : Array Value := #[.int .i64 x.group, .int .i64 x.app, .slice a.R x.own.length a.cR, .slice a.K x.cnt.length a.cK, .slice a.C x.cnt.length a.cC, .slice a.M x.mem.length a.cM, .slice a.G x.giv.length a.cG, .slice a.T x.tak.length a.cT]
def Off (p : Pl) (B : Nat) (W : World) (A : Option Addr) : Prop := ∀ g, rowOf A = some g → B < g ∧ ¬ p.foot g ∧ g < W.heap.size
structure StH (W : World) (p : Pl) (B : Nat) (x : Sh) (a : Adr) : Prop where
 s : StS W x a.R a.K a.C a.M a.G a.T
 r : Off p B W a.R
 k : Off p B W a.K
 c : Off p B W a.C
 m : Off p B W a.M
 g : Off p B W a.G
 t : Off p B W a.T
structure One (v : World) (p : Pl) (x : Sh) (B : Nat) (l : List Ef) (W : World) : Prop where
 bel : Below v.heap.size v W
 s : ShW v.heap.size p x W
 m : CM W B l
 vb : v.heap.size ≤ B
 nf : ¬ p.foot B
section
variable {v W W' : World} {p p' : Pl} {x x' y : Sh} {B : Nat} {l : List Ef} {a : Adr}
theorem StS.same (h : StS W x a.R a.K a.C a.M a.G a.T) (hs : ∀ A ∈ [a.R, a.K, a.C, a.M, a.G, a.T], ∀ g, rowOf A = some g → g < W.heap.size → g < W'.heap.size ∧ W'.heap[g]? = W.heap[g]?) : StS W' x a.R a.K a.C a.M a.G a.T :=
 ⟨SL.same h.r (hs _ (by simp)), SL.same h.k (hs _ (by simp)), SL.same h.c (hs _ (by simp)), SL.same h.m (hs _ (by simp)), SL.same h.g (hs _ (by simp)), SL.same h.t (hs _ (by simp))⟩
theorem StH.off (h : StH W p B x a) {A : Option Addr} (hA : A ∈ [a.R, a.K, a.C, a.M, a.G, a.T]) : Off p B W A := by
 simp at hA
 rcases hA with rfl | rfl | rfl | rfl | rfl | rfl
 ·
  exact h.r
 ·
  exact h.k
 ·
  exact h.c
 ·
  exact h.m
 ·
  exact h.g
 ·
  exact h.t
theorem StH.mk' (hs : StS W x a.R a.K a.C a.M a.G a.T) (ho : ∀ A ∈ [a.R, a.K, a.C, a.M, a.G, a.T], Off p B W A) : StH W p B x a :=
 ⟨hs, ho _ (by simp), ho _ (by simp), ho _ (by simp), ho _ (by simp), ho _ (by simp), ho _ (by simp)⟩
theorem StH.below (h : StH W p B x a) (hb : Below W.heap.size W W') : StH W' p B x a :=
 .mk' (h.s.keep hb) fun A hA g hg => ⟨(h.off hA g hg).1, (h.off hA g hg).2.1, Nat.lt_of_lt_of_le (h.off hA g hg).2.2 hb.size⟩
theorem StH.sTo (h : StH W p B x a) {base : Nat} (ht : ShTo base p p' x' W W') : StH W' p' B x a :=
 .mk' (h.s.same fun A hA g hg hl => ⟨Nat.lt_of_lt_of_le hl ht.chg.size, ht.chg.block g hl (h.off hA g hg).2.1⟩) fun A hA g hg =>
  ⟨(h.off hA g hg).1, fun q => (ht.new g q).elim (h.off hA g hg).2.1 fun hge => by have := (h.off hA g hg).2.2; omega, Nat.lt_of_lt_of_le (h.off hA g hg).2.2 ht.chg.size⟩
theorem StH.turned (h : StH W p B x a) (ht : W.mapTurned W' B) : StH W' p B x a := by
 have hc := turned_chg ht
 exact .mk' (h.s.same fun A hA g hg hl => ⟨Nat.lt_of_lt_of_le hl hc.size, hc.block g hl fun e => by have := (h.off hA g hg).1; omega⟩) fun A hA g hg =>
  ⟨(h.off hA g hg).1, (h.off hA g hg).2.1, Nat.lt_of_lt_of_le (h.off hA g hg).2.2 hc.size⟩
theorem One.below (h : One v p x B l W) (hb : Below W.heap.size W W') : One v p x B l W' := ⟨h.bel.trans (hb.mono h.bel.size), h.s.below hb, h.m.below hb, h.vb, h.nf⟩
theorem One.sTo (h : One v p x B l W) (ht : ShTo v.heap.size p p' x' W W') : One v p' x' B l W' :=
 ⟨ht.bel h.s h.bel, ht.sh, MapOf.keep h.m (ht.chg.block B h.m.lt h.nf), h.vb, fun q => (ht.new B q).elim h.nf fun hg => by have := h.m.lt; omega⟩
theorem One.put (h : One v p x B l W) {l' : List Ef} (hm : CM W' B l') (ht : W.mapTurned W' B) : One v p x B l' W' := by
 have hc := turned_chg ht
 exact ⟨Chg.belowAfter h.bel hc h.bel.size fun k hk e => by have := h.vb; omega, h.s.chg hc fun k hk e => h.nf (e ▸ hk), hm, h.vb, h.nf⟩
theorem turned_cells (ht : W.mapTurned W' B) (hm : CM W B l) {k : Nat} {cs : Array Value} {T : TypeId} {f : Nat × Nat} (hk : W.heap[k]? = some (.cells cs T f)) : W'.heap[k]? = some (.cells cs T f) :=
 ((turned_chg ht).block k (blkX hk) fun e => hm.ncell (e ▸ hk)).trans hk
theorem one_state (h : One v p x B l W) (hL : Lim 60000 x) : Calls Tryz.prog 8 #[.pointer (some ⟨p.S, 0, none⟩)] W fun e W' => ∃ a : Adr, e = .returned (.agg #[.int .i64 x.group, .int .i64 x.app, .slice a.R x.own.length a.cR, .slice a.K x.cnt.length a.cK, .slice a.C x.cnt.length a.cC, .slice a.M x.mem.length a.cM, .slice a.G x.giv.length a.cG, .slice a.T x.tak.length a.cT]) ∧ StH W' p B x a ∧ Below W.heap.size W W' := by
 refine (shState_any h.s (by have := hL.own; omega) (by rw [hL.giv]; simp) (by rw [hL.tak]; simp) (by rw [hL.giv]; simp) (by rw [hL.tak]; simp)).mono ?_
 rintro e W' ⟨AR, cR, A1, c1, A2, c2, A3, c3, AG, cG, AT, cT, rfl, hU⟩
 have hlt := h.m.lt
 have hof : ∀ {e : TypeId} {sz n c : Nat} {A : Option Addr} {xs : List Value}, W'.ownsRow W.heap.size e sz (.slice A n c) n xs → Off p B W' A := fun ho g hg => by
  have := own_row ho g hg
  exact ⟨by omega, fun q => by have := (h.s.foot_lt g q).2; omega, this.2⟩
 refine ⟨⟨AR, cR, A1, c1, A2, c2, A3, c3, AG, cG, AT, cT⟩, rfl, ⟨hU.sls, hof hU.oR, hof hU.o1, hof hU.o2, hof hU.o3, hof hU.oG, ?_⟩, hU.bel⟩
 have := hU.oT
 exact hof this
theorem Lim.sz {j : Nat} (h : Lim j x) (hj : 2 * j ≤ 1000000) (hc : x.cnt.length ≤ 1000000) : Sz x := ⟨by have := h.own; omega, hc, by have := h.mem; omega, by rw [h.giv]; simp, by rw [h.tak]; simp⟩
theorem one_equal {b : Adr} {p q : Pl} (ha : StH W p B x a) (hb : StH W q B y b) (hl : Like x y) (hz : Sz x) : Calls Tryz.prog 11 #[.agg #[.int .i64 x.group, .int .i64 x.app, .slice a.R x.own.length a.cR, .slice a.K x.cnt.length a.cK, .slice a.C x.cnt.length a.cC, .slice a.M x.mem.length a.cM, .slice a.G x.giv.length a.cG, .slice a.T x.tak.length a.cT], .agg #[.int .i64 y.group, .int .i64 y.app, .slice b.R y.own.length b.cR, .slice b.K y.cnt.length b.cK, .slice b.C y.cnt.length b.cC, .slice b.M y.mem.length b.cM, .slice b.G y.giv.length b.cG, .slice b.T y.tak.length b.cT]] W fun e w' => e = .returned (.bool true) ∧ Below W.heap.size W w' := by
 unfold Like at hl
 have h := equal_any x y.app a.R a.cR a.K a.cK a.C a.cC a.M a.cM a.G a.cG a.T a.cT b.R b.cR b.K b.cK b.C b.cC b.M b.cM b.G b.cG b.T b.cT W ha.s (by have := hb.s; rw [hl] at this; exact ⟨this.r, this.k, this.c, this.m, this.g, this.t⟩) hz
 rw [hl]
 exact h
end
theorem ShW.cle {base : Nat} {p : Pl} {x : Sh} {W : World} (h : ShW base p x W) : x.cnt.length ≤ 64 := h.st.len
theorem st_load {x : Sh} {a : Adr} {W : World} {b : Nat} (h : W.heap[b]? = some (.cells (staV x a) 49 (0, 0))) : (Instr.loadAt 49 (.pointer (some ⟨b, 0, none⟩))).run Tryz.prog W = .ok (.agg #[.int .i64 x.group, .int .i64 x.app, .slice a.R x.own.length a.cR, .slice a.K x.cnt.length a.cK, .slice a.C x.cnt.length a.cC, .slice a.M x.mem.length a.cM, .slice a.G x.giv.length a.cG, .slice a.T x.tak.length a.cT]) W := by
 have := run_loadAt_mid (P := Tryz.prog) W b 0 49 (staV x a).toList _ (fun j v hv => by
  rw [Nat.zero_add]
  refine (blkC h j).trans ?_
  rw [← Array.getElem?_toList]; exact hv) Tryz.underlying49 rfl (by
   rw [show (staV x a).toList.length = 8 from rfl]
   kernel_rfl)
 simpa [staV] using this
theorem loadAt_two (t : TypeId) (p : Value) (h : (t == 40 || t == 49) = false) : Instr.loadAt t p = (do loadVar t (← Instr.sureAddr p)) := rfl
end Go.Proofs.YtgnjnpddehdmcaaGreatDoor

namespace Go.Proofs.YtgnjnpddehdmcaaGreatDoor
open Go.ChangeShapes Go.WideShapes Go.Deep
section
variable {H : Type} {enc : TypeId × Value → H} {P : Program} {w : World} {base : Nat} {spare : Nat → Bool} {held : Bool}
theorem open_slice_fields {t e : TypeId} {fs : Array Field} {fuel : Nat} {cs : List Value} {x : DataW H × List MemPlace} (ht : P.underlying t = some (.slice e)) (he : P.underlying e = some (.struct fs))
  (hone : oneCellFields P fs = true) (hC : P.cellsOf e = fs.size) (h : DataW.trod enc P w base spare held fuel t cs = some x) :
  (cs = [.slice none 0 0] ∧ x = (.nil, [])) ∨
  ∃ (a : Addr) (len cap m : Nat) (D : Nat → DataW H) (Pl : Nat → List MemPlace), cs = [.slice (some a) len cap] ∧ base ≤ a.block ∧ len ≤ cap ∧ cap ≤ maxLen ∧ m = (if spare a.block then cap else len) ∧
   x = (.slice ((List.range len).map D) ((List.range (m - len)).map fun j => D (len + j)), MemPlace.row a (m * fs.size) ++ (List.range m).flatMap Pl) ∧
   ∀ i, i < m → ∃ (ys : List (DataW H × List MemPlace)) (n : Nat), D i = .agg (ys.map (·.1)) ∧ Pl i = ys.flatMap (·.2) ∧ ys.length = fs.size ∧
    ∀ (j : Nat) (f : Field), fs[j]? = some f → ∃ (v : Value) (y : DataW H × List MemPlace), w.cell? (a.add (i * fs.size + j)) = some v ∧ ys[j]? = some y ∧ DataW.trod enc P w base spare held n f.type [v] = some y := by
 rcases open_slice ht h with h0 | ⟨a, len, cap, m, n, D, Pl, hcs, hb, hl, hm, hmm, hx, hi⟩
 ·
  exact .inl h0
 ·
  refine .inr ⟨a, len, cap, m, D, Pl, hcs, hb, hl, hm, hmm, by rw [hC] at hx; exact hx, fun i him => ?_⟩
  obtain ⟨cs', hc, ht'⟩ := hi i him
  rw [hC] at hc
  obtain ⟨ys, n', hn', hy, hlen, hyl, hf⟩ := DataW.trod_struct he ht'
  obtain ⟨_, hcl, hat⟩ := World.cells?_some hc
  simp only [Prod.mk.injEq] at hy
  refine ⟨ys, n', hy.1, hy.2, hyl, fun j f hj => ?_⟩
  obtain ⟨ho, hk⟩ := hone_of hone j f hj
  have hjl : j < fs.size := (Array.getElem?_eq_some_iff.1 hj).1
  have hcell := hat j hjl
  have hv : cs'[j]? = some (cs'[j]'(by omega)) := List.getElem?_eq_getElem (by omega)
  have h1 := hf j f hj
  rw [ho, hk] at h1
  have hone' : (cs'.drop j).take 1 = [cs'[j]'(by omega)] := by
   rw [List.drop_eq_getElem_cons (by omega)]
   rfl
  rw [hone'] at h1
  have hys : ys[j]? = some (ys[j]'(by omega)) := List.getElem?_eq_getElem (by omega)
  refine ⟨_, _, ?_, hys, h1.trans hys⟩
  rw [← Go.Deep.add_add, hcell, hv]
end
def Weighs {H : Type} (P : Program) (t : TypeId) (d : DataW H) : Prop := ∀ n ∈ d.weights P t, n ≤ reachBytes
theorem weighs_of {H : Type} {P : Program} {ts : List TypeId} {ds : List (DataW H)} (h : (DataW.weightsEach P ts ds).all (· ≤ reachBytes) = true) (j : Nat) {t : TypeId} {d : DataW H} (ht : ts[j]? = some t) (hd : ds[j]? = some d) : Weighs P t d :=
 fun n hn => by simpa using List.all_eq_true.1 h n (DataW.weights_mem_each ht hd n hn)
end Go.Proofs.YtgnjnpddehdmcaaGreatDoor

namespace Go.Proofs.YtgnjnpddehdmcaaGreatDoor
open Go.RowKit Go.Shelf
set_option linter.unusedSimpArgs false
set_option linter.unusedVariables false
set_option linter.unusedSectionVars false
set_option maxRecDepth 10000
theorem blk_addC (a : Addr) (n : Nat) : (a.add n).block = a.block := by
 unfold Addr.add; split <;> rfl
open Go.ChangeShapes Go.WideShapes Go.Deep Go.Joins
section
variable {H : Type} {enc : TypeId × Value → H} {w : World} {r : Reach} {b0 : Nat}
theorem open_steps2 {v : Value} {d : DataW H × List MemPlace} {fuel : Nat} (hf : DataW.trod enc Tryz.prog w 0 (fun _ => true) true fuel 33 [v] = some d) : ∃ A n c l, v = .slice A n c ∧ SS2 w A n l := by
 rcases open_slice_fields Tryz.underlying33 Tryz.underlying150 (by kernel_rfl) (by kernel_rfl) hf with ⟨hcs, hx⟩ | ⟨a, len, cap, m, D, Pl, hcs, _, hl, hm, hmm, hx, hi⟩
 ·
  simp only [List.cons.injEq, and_true] at hcs
  subst hcs
  exact ⟨none, 0, 0, [], rfl, SL.nil _ _⟩
 ·
  simp only [List.cons.injEq, and_true] at hcs
  subst hcs
  simp only [if_true] at hmm
  subst hmm
  have hel : ∀ i, i < len → ∃ u : ByteArray × Int, w.cell? (a.add (i * 2)) = some (.string u.1) ∧ w.cell? (a.add (i * 2 + 1)) = some (.int .i64 u.2) := by
   intro i hin
   obtain ⟨ys, q, hD, _, hyl, hfs⟩ := hi i (by omega)
   obtain ⟨v0, y0, hc0, hy0, t0⟩ := hfs 0 _ rfl
   obtain ⟨v1, y1, hc1, hy1, t1⟩ := hfs 1 _ rfl
   obtain ⟨a0, e0, x0, w0⟩ := DataW.trod_string Tryz.underlying9 t0
   obtain ⟨a1, e1, x1, w1⟩ := DataW.trod_int Tryz.underlying2 t1
   simp only [List.cons.injEq, and_true] at e0 e1
   subst e0 e1
   exact ⟨(a0, a1), hc0, hc1⟩
  let F : Nat → ByteArray × Int := fun i => if hin : i < len then (hel i hin).choose else (ByteArray.empty, 0)
  have hF : ∀ i (hin : i < len), w.cell? (a.add (i * 2)) = some (.string (F i).1) ∧ w.cell? (a.add (i * 2 + 1)) = some (.int .i64 (F i).2) := by
   intro i hin
   have := (hel i hin).choose_spec
   simp only [F, dif_pos hin]
   exact this
  refine ⟨some a, len, m, (List.range len).map F, rfl, ⟨by simp, fun hn => ?_⟩⟩
  obtain ⟨h0, _⟩ := hF 0 hn
  have hb := World.block_lt_of_cell? w (a.add (0 * 2)) h0
  have hs := World.cell?_spot h0
  rw [blk_addC] at hb
  have hsp : a.spot = none := by simpa [Addr.add] using hs
  obtain ⟨ab, ao, asp⟩ := a
  simp only at hsp
  subst hsp
  refine ⟨ab, ao, rfl, hb, fun i u hu j x hx => ?_⟩
  have hil := (List.getElem?_eq_some_iff.1 hu).1
  simp only [List.length_map, List.length_range] at hil
  obtain ⟨c0, c1⟩ := hF i hil
  rw [Addr.add_lit] at c0 c1
  rw [List.getElem?_map, List.getElem?_range hil] at hu
  simp only [Option.map_some, Option.some.injEq] at hu
  subst hu
  rw [← Nat.add_assoc] at c1
  rcases j with _ | _ | j
  ·
   simp [encS2] at hx; subst hx; exact c0
  ·
   simp [encS2] at hx; subst hx; exact c1
  ·
   simp [encS2] at hx
theorem open_ef {cs : List Value} {x : DataW H × List MemPlace} {fuel : Nat} (h : DataW.trod enc Tryz.prog w 0 (fun _ => true) true fuel 30 cs = some x) : ∃ e : Ef, cs = [.int .i64 e.1, .int .i64 e.2.1, .int .i64 e.2.2] := by
 obtain ⟨xs, n, rfl, hx, hl, hlen, hf⟩ := DataW.trod_struct Tryz.underlying30 h
 rw [show Tryz.prog.cellsOf 30 = 3 from by kernel_rfl] at hl
 match cs, hl with
 | [v0, v1, v2], _ =>
  have h0 := hf 0 _ rfl; have h1 := hf 1 _ rfl; have h2 := hf 2 _ rfl
  match xs, hlen with
  | [x0, x1, x2], _ =>
   simp only [List.getElem?_cons_zero, List.getElem?_cons_succ, List.getElem_toArray, List.getElem_cons_zero, List.getElem_cons_succ] at h0 h1 h2
   rw [show Tryz.prog.cellsOf 3 = 1 from by kernel_rfl] at h0 h1 h2
   simp only [List.drop_zero, List.drop_succ_cons, List.take_succ_cons, List.take_zero] at h0 h1 h2
   obtain ⟨a0, e0, -, -⟩ := DataW.trod_int Tryz.underlying3 h0
   obtain ⟨a1, e1, -, -⟩ := DataW.trod_int Tryz.underlying3 h1
   obtain ⟨a2, e2, -, -⟩ := DataW.trod_int Tryz.underlying3 h2
   simp only [List.cons.injEq, and_true] at e0 e1 e2
   exact ⟨(a0, a1, a2), by rw [e0, e1, e2]⟩
theorem open_rgc {cs : List Value} {x : DataW H × List MemPlace} {fuel : Nat} (h : DataW.trod enc Tryz.prog w 0 (fun _ => true) true fuel 32 cs = some x) : ∃ g : Rg, cs = [.string g.1, .string g.2] := by
 obtain ⟨xs, n, rfl, hx, hl, hlen, hf⟩ := DataW.trod_struct Tryz.underlying32 h
 rw [show Tryz.prog.cellsOf 32 = 2 from by kernel_rfl] at hl
 match cs, hl with
 | [v0, v1], _ =>
  have h0 := hf 0 _ rfl; have h1 := hf 1 _ rfl
  match xs, hlen with
  | [x0, x1], _ =>
   simp only [List.getElem?_cons_zero, List.getElem?_cons_succ, List.getElem_toArray, List.getElem_cons_zero, List.getElem_cons_succ] at h0 h1
   rw [show Tryz.prog.cellsOf 9 = 1 from by kernel_rfl] at h0 h1
   simp only [List.drop_zero, List.drop_succ_cons, List.take_succ_cons, List.take_zero] at h0 h1
   obtain ⟨a0, e0, -, -⟩ := DataW.trod_string Tryz.underlying9 h0
   obtain ⟨a1, e1, -, -⟩ := DataW.trod_string Tryz.underlying9 h1
   simp only [List.cons.injEq, and_true] at e0 e1
   exact ⟨(a0, a1), by rw [e0, e1]⟩
theorem open_defc {cs : List Value} {x : DataW H × List MemPlace} {fuel : Nat} (h : DataW.trod enc Tryz.prog w 0 (fun _ => true) true fuel 35 cs = some x) : ∃ nm dr dd A n c l, cs = [.string nm, .int .i64 dr, .int .i64 dd, .slice A n c] ∧ SS2 w A n l := by
 obtain ⟨xs, n, rfl, hx, hl, hlen, hf⟩ := DataW.trod_struct Tryz.underlying35 h
 rw [show Tryz.prog.cellsOf 35 = 4 from by kernel_rfl] at hl
 match cs, hl with
 | [v0, v1, v2, v3], _ =>
  have h0 := hf 0 _ rfl; have h1 := hf 1 _ rfl; have h2 := hf 2 _ rfl; have h3 := hf 3 _ rfl
  match xs, hlen with
  | [x0, x1, x2, x3], _ =>
   simp only [List.getElem?_cons_zero, List.getElem?_cons_succ, List.getElem_toArray, List.getElem_cons_zero, List.getElem_cons_succ] at h0 h1 h2 h3
   rw [show Tryz.prog.cellsOf 9 = 1 from by kernel_rfl] at h0
   rw [show Tryz.prog.cellsOf 3 = 1 from by kernel_rfl] at h1 h2
   rw [show Tryz.prog.cellsOf 33 = 1 from by kernel_rfl] at h3
   simp only [List.drop_zero, List.drop_succ_cons, List.take_succ_cons, List.take_zero] at h0 h1 h2 h3
   obtain ⟨a0, e0, -, -⟩ := DataW.trod_string Tryz.underlying9 h0
   obtain ⟨a1, e1, -, -⟩ := DataW.trod_int Tryz.underlying3 h1
   obtain ⟨a2, e2, -, -⟩ := DataW.trod_int Tryz.underlying3 h2
   obtain ⟨A3, n3, c3, l3, e3, hS3⟩ := open_steps2 h3
   simp only [List.cons.injEq, and_true] at e0 e1 e2 e3
   exact ⟨a0, a1, a2, A3, n3, c3, l3, by rw [e0, e1, e2, e3], hS3⟩
theorem open_item {cs : List Value} {x : DataW H × List MemPlace} {fuel : Nat} (h : DataW.trod enc Tryz.prog w 0 (fun _ => true) true fuel 37 cs = some x) : ∃ (ie : Ef) (im : Int) (ii : Bool) (ig : Int), cs = [.int .i64 ie.1, .int .i64 ie.2.1, .int .i64 ie.2.2, .int .i64 im, .bool ii, .int .i64 ig] := by
 obtain ⟨xs, n, rfl, hx, hl, hlen, hf⟩ := DataW.trod_struct Tryz.underlying37 h
 rw [show Tryz.prog.cellsOf 37 = 6 from by kernel_rfl] at hl
 match cs, hl with
 | [v0, v1, v2, v3, v4, v5], _ =>
  have h0 := hf 0 _ rfl; have h1 := hf 1 _ rfl; have h2 := hf 2 _ rfl; have h3 := hf 3 _ rfl
  match xs, hlen with
  | [x0, x1, x2, x3], _ =>
   simp only [List.getElem?_cons_zero, List.getElem?_cons_succ, List.getElem_toArray, List.getElem_cons_zero, List.getElem_cons_succ] at h0 h1 h2 h3
   rw [show Tryz.prog.cellsOf 30 = 3 from by kernel_rfl] at h0
   rw [show Tryz.prog.cellsOf 3 = 1 from by kernel_rfl] at h1 h3
   rw [show Tryz.prog.cellsOf 4 = 1 from by kernel_rfl] at h2
   simp only [List.drop_zero, List.drop_succ_cons, List.take_succ_cons, List.take_zero] at h0 h1 h2 h3
   obtain ⟨f0, e0⟩ := open_ef h0
   obtain ⟨a1, e1, -, -⟩ := DataW.trod_int Tryz.underlying3 h1
   obtain ⟨a2, e2, -⟩ := DataW.trod_bool Tryz.underlying4 h2
   obtain ⟨a3, e3, -, -⟩ := DataW.trod_int Tryz.underlying3 h3
   simp only [List.cons.injEq, and_true] at e0 e1 e2 e3
   exact ⟨f0, a1, a2, a3, by rw [e0.1, e0.2.1, e0.2.2, e1, e2, e3]⟩
end
end Go.Proofs.YtgnjnpddehdmcaaGreatDoor

namespace Go.Proofs.YtgnjnpddehdmcaaGreatDoor
open Go.RowKit Go.Shelf
set_option linter.unusedSimpArgs false
set_option linter.unusedVariables false
set_option linter.unusedSectionVars false
set_option maxRecDepth 10000
open Go.ChangeShapes Go.WideShapes Go.Deep Go.Joins
def okCd (c : Cd) : Prop := wfI c.k ∧ wfI c.dl ∧ wfI c.mv
theorem wf_of {n : Int} (h : (Lit.int .i64 n).wf = true) : wfI n := by
 unfold wfI
 simp [Lit.wf, IntKind.min, IntKind.max, IntKind.signed, IntKind.bits] at h; omega
abbrev CdS := Cd × List (ByteArray × Int)
def encCd (y : CdS) : List Value := (cdV y.1).toList
theorem encCd_len (y : CdS) : (encCd y).length = 24 := rfl
structure CL (w : World) (A : Option Addr) (n : Nat) (l : List CdS) : Prop where
 sl : SL encCd 24 w A n l
 ok : ∀ y ∈ l, SS2 w y.1.dA y.1.dl' y.2 ∧ okCd y.1
structure OwS where
 y : Owd
 A1 : Option Addr
 n1 : Nat
 c1 : Nat
 A2 : Option Addr
 n2 : Nat
 c2 : Nat
def encOw (o : OwS) : List Value := [.string o.y.r.1, .string o.y.r.2, .slice o.A1 o.n1 o.c1, .slice o.A2 o.n2 o.c2]
theorem encOw_len (o : OwS) : (encOw o).length = 4 := rfl
structure OL (w : World) (A : Option Addr) (n : Nat) (l : List OwS) : Prop where
 sl : SL encOw 4 w A n l
 ok : ∀ o ∈ l, KS w o.A1 o.n1 o.y.ks ∧ CS w o.A2 o.n2 o.y.cs
section
variable {w w' : World} {A : Option Addr} {n : Nat}
theorem CL.keep {l : List CdS} (h : CL w A n l) (hb : Below w.heap.size w w') : CL w' A n l := ⟨SL.keep h.sl hb, fun y hy => ⟨SL.keep (h.ok y hy).1 hb, (h.ok y hy).2⟩⟩
theorem OL.keep {l : List OwS} (h : OL w A n l) (hb : Below w.heap.size w w') : OL w' A n l := ⟨SL.keep h.sl hb, fun y hy => ⟨SL.keep (h.ok y hy).1 hb, SL.keep (h.ok y hy).2 hb⟩⟩
end
section
variable {H : Type} {enc : TypeId × Value → H} {w : World} {r : Reach} {b0 : Nat}
theorem open_list {α : Type} (z : α) {t e : TypeId} {C : Nat} (en : α → List Value) (ok : α → Prop) {fuel : Nat} {v : Value} {d : DataW H × List MemPlace} (ht : Tryz.prog.underlying t = some (.slice e)) (hC : Tryz.prog.cellsOf e = C) (hen : ∀ a, (en a).length = C) (hp : 0 < C)
  (hone : ∀ (cs : List Value) (x : DataW H × List MemPlace) (fuel : Nat), DataW.trod enc Tryz.prog w 0 (fun _ => true) true fuel e cs = some x → ∃ a, cs = en a ∧ ok a)
  (hf : DataW.trod enc Tryz.prog w 0 (fun _ => true) true fuel t [v] = some d) : ∃ A n c l, v = .slice A n c ∧ SL en C w A n l ∧ ∀ a ∈ l, ok a := by
 rcases open_slice ht hf with ⟨hcs, hx⟩ | ⟨a, len, cap, m, q, D, Pl, hcs, _, hl, hm, hmm, hx, hi⟩
 ·
  simp only [List.cons.injEq, and_true] at hcs
  subst hcs
  exact ⟨none, 0, 0, [], rfl, SL.nil _ _, by simp⟩
 ·
  simp only [List.cons.injEq, and_true] at hcs
  subst hcs
  simp only [if_true] at hmm
  subst hmm
  rw [hC] at hi
  have hel : ∀ i, i < len → ∃ s : α, ok s ∧ ∀ (j : Nat) (u : Value), (en s)[j]? = some u → w.cell? (a.add (i * C + j)) = some u := by
   intro i hin
   obtain ⟨cs', hc, ht⟩ := hi i (by omega)
   obtain ⟨_, hcl, hat⟩ := World.cells?_some hc
   obtain ⟨s, rfl, hok⟩ := hone _ _ _ ht
   refine ⟨s, hok, fun j u hu => ?_⟩
   have hj : j < C := by have := (List.getElem?_eq_some_iff.1 hu).1; rwa [hen] at this
   rw [← Go.Deep.add_add, hat j hj, hu]
  let F : Nat → α := fun i => if hin : i < len then (hel i hin).choose else z
  have hF : ∀ i (hin : i < len), ok (F i) ∧ ∀ (j : Nat) (u : Value), (en (F i))[j]? = some u → w.cell? (a.add (i * C + j)) = some u := by
   intro i hin
   have := (hel i hin).choose_spec
   simp only [F, dif_pos hin]
   exact this
  refine ⟨some a, len, m, (List.range len).map F, rfl, ⟨by simp, fun hn => ?_⟩, fun x hx => ?_⟩
  ·
   have hu : ∃ u, (en (F 0))[0]? = some u := ⟨_, List.getElem?_eq_getElem (by rw [hen]; exact hp)⟩
   obtain ⟨u0, hu0⟩ := hu
   have h0 := (hF 0 hn).2 0 _ hu0
   have hb := World.block_lt_of_cell? w (a.add (0 * C + 0)) h0
   have hs := World.cell?_spot h0
   rw [blk_addC] at hb
   have hsp : a.spot = none := by simpa [Addr.add] using hs
   obtain ⟨ab, ao, asp⟩ := a
   simp only at hsp
   subst hsp
   refine ⟨ab, ao, rfl, hb, fun i u hu j x hx => ?_⟩
   have hil := (List.getElem?_eq_some_iff.1 hu).1
   simp only [List.length_map, List.length_range] at hil
   rw [List.getElem?_map, List.getElem?_range hil] at hu
   simp only [Option.map_some, Option.some.injEq] at hu
   subst hu
   have := (hF i hil).2 j x hx
   rw [Addr.add_lit, ← Nat.add_assoc] at this
   exact this
  ·
   obtain ⟨i, hi2, rfl⟩ := List.mem_map.1 hx
   exact (hF i (List.mem_range.1 hi2)).1
theorem open_text1 {cs : List Value} {x : DataW H × List MemPlace} {fuel : Nat} (h : DataW.trod enc Tryz.prog w 0 (fun _ => true) true fuel 9 cs = some x) : ∃ s : ByteArray, cs = encS1 s ∧ True := by
 obtain ⟨s, e, -, -⟩ := DataW.trod_string Tryz.underlying9 h
 exact ⟨s, e, trivial⟩
theorem open_count1 {cs : List Value} {x : DataW H × List MemPlace} {fuel : Nat} (h : DataW.trod enc Tryz.prog w 0 (fun _ => true) true fuel 58 cs = some x) : ∃ c : Cn, cs = encC c ∧ True := by
 obtain ⟨xs, n, rfl, hx, hl, hlen, hf⟩ := DataW.trod_struct Tryz.underlying58 h
 rw [show Tryz.prog.cellsOf 58 = 5 from by kernel_rfl] at hl
 match cs, hl with
 | [v0, v1, v2, v3, v4], _ =>
  have h0 := hf 0 _ rfl; have h1 := hf 1 _ rfl; have h2 := hf 2 _ rfl; have h3 := hf 3 _ rfl; have h4 := hf 4 _ rfl
  match xs, hlen with
  | [x0, x1, x2, x3, x4], _ =>
   simp only [List.getElem?_cons_zero, List.getElem?_cons_succ, List.getElem_toArray, List.getElem_cons_zero, List.getElem_cons_succ] at h0 h1 h2 h3 h4
   rw [show Tryz.prog.cellsOf 2 = 1 from by kernel_rfl] at h0 h1 h2 h3 h4
   simp only [List.drop_zero, List.drop_succ_cons, List.take_succ_cons, List.take_zero] at h0 h1 h2 h3 h4
   obtain ⟨a0, e0, -, -⟩ := DataW.trod_int Tryz.underlying2 h0
   obtain ⟨a1, e1, -, -⟩ := DataW.trod_int Tryz.underlying2 h1
   obtain ⟨a2, e2, -, -⟩ := DataW.trod_int Tryz.underlying2 h2
   obtain ⟨a3, e3, -, -⟩ := DataW.trod_int Tryz.underlying2 h3
   obtain ⟨a4, e4, -, -⟩ := DataW.trod_int Tryz.underlying2 h4
   simp only [List.cons.injEq, and_true] at e0 e1 e2 e3 e4
   exact ⟨(a0, a1, a2, a3, a4), by rw [e0, e1, e2, e3, e4]; rfl, trivial⟩
theorem open_owd1 {cs : List Value} {x : DataW H × List MemPlace} {fuel : Nat} (h : DataW.trod enc Tryz.prog w 0 (fun _ => true) true fuel 61 cs = some x) : ∃ o : OwS, cs = encOw o ∧ (KS w o.A1 o.n1 o.y.ks ∧ CS w o.A2 o.n2 o.y.cs) := by
 obtain ⟨xs, n, rfl, hx, hl, hlen, hf⟩ := DataW.trod_struct Tryz.underlying61 h
 rw [show Tryz.prog.cellsOf 61 = 4 from by kernel_rfl] at hl
 match cs, hl with
 | [v0, v1, v2, v3], _ =>
  have h0 := hf 0 _ rfl; have h1 := hf 1 _ rfl; have h2 := hf 2 _ rfl
  match xs, hlen with
  | [x0, x1, x2], _ =>
   simp only [List.getElem?_cons_zero, List.getElem?_cons_succ, List.getElem_toArray, List.getElem_cons_zero, List.getElem_cons_succ] at h0 h1 h2
   rw [show Tryz.prog.cellsOf 32 = 2 from by kernel_rfl] at h0
   rw [show Tryz.prog.cellsOf 43 = 1 from by kernel_rfl] at h1
   rw [show Tryz.prog.cellsOf 44 = 1 from by kernel_rfl] at h2
   simp only [List.drop_zero, List.drop_succ_cons, List.take_succ_cons, List.take_zero] at h0 h1 h2
   obtain ⟨g, e0⟩ := open_rgc h0
   obtain ⟨A1, n1, c1, ks, e1, hk, -⟩ := open_list (noText : ByteArray) encS1 (fun _ => True) Tryz.underlying43 (by kernel_rfl : Tryz.prog.cellsOf 9 = 1) (fun _ => rfl) (by omega) (fun _ _ _ q => open_text1 q) h1
   obtain ⟨A2, n2, c2, cs2, e2, hc, -⟩ := open_list zCn encC (fun _ => True) Tryz.underlying44 (by kernel_rfl : Tryz.prog.cellsOf 58 = 5) (fun _ => rfl) (by omega) (fun _ _ _ q => open_count1 q) h2
   simp only [List.cons.injEq, and_true] at e0
   exact ⟨⟨⟨g, ks, cs2⟩, A1, n1, c1, A2, n2, c2⟩, by rw [e0.1, e0.2, e1, e2]; rfl, hk, hc⟩
theorem open_cmdw {cs : List Value} {x : DataW H × List MemPlace} {fuel : Nat} (h : DataW.trod enc Tryz.prog w 0 (fun _ => true) true fuel 40 cs = some x) : ∃ (c : Cd) (l : List (ByteArray × Int)), cs = (cdV c).toList ∧ SS2 w c.dA c.dl' l ∧ okCd c := by
 obtain ⟨xs, n, rfl, hx, hl, hlen, hf⟩ := DataW.trod_struct Tryz.underlying40 h
 rw [show Tryz.prog.cellsOf 40 = 24 from by kernel_rfl] at hl
 match cs, hl with
 | [v0, v1, v2, v3, v4, v5, v6, v7, v8, v9, v10, v11, v12, v13, v14, v15, v16, v17, v18, v19, v20, v21, v22, v23], _ =>
  have h0 := hf 0 _ rfl; have h1 := hf 1 _ rfl; have h2 := hf 2 _ rfl; have h3 := hf 3 _ rfl; have h4 := hf 4 _ rfl; have h5 := hf 5 _ rfl; have h6 := hf 6 _ rfl; have h7 := hf 7 _ rfl; have h8 := hf 8 _ rfl; have h9 := hf 9 _ rfl; have h10 := hf 10 _ rfl; have h11 := hf 11 _ rfl; have h12 := hf 12 _ rfl
  match xs, hlen with
  | [x0, x1, x2, x3, x4, x5, x6, x7, x8, x9, x10, x11, x12], _ =>
   simp only [List.getElem?_cons_zero, List.getElem?_cons_succ, List.getElem_toArray, List.getElem_cons_zero, List.getElem_cons_succ] at h0 h1 h2 h3 h4 h5 h6 h7 h8 h9 h10 h11 h12
   rw [show Tryz.prog.cellsOf 3 = 1 from by kernel_rfl] at h0 h1 h2 h6 h8
   rw [show Tryz.prog.cellsOf 30 = 3 from by kernel_rfl] at h3
   rw [show Tryz.prog.cellsOf 9 = 1 from by kernel_rfl] at h4 h12
   rw [show Tryz.prog.cellsOf 2 = 1 from by kernel_rfl] at h5
   rw [show Tryz.prog.cellsOf 32 = 2 from by kernel_rfl] at h7
   rw [show Tryz.prog.cellsOf 35 = 4 from by kernel_rfl] at h9
   rw [show Tryz.prog.cellsOf 37 = 6 from by kernel_rfl] at h10
   rw [show Tryz.prog.cellsOf 38 = 1 from by kernel_rfl] at h11
   simp only [List.drop_zero, List.drop_succ_cons, List.take_succ_cons, List.take_zero] at h0 h1 h2 h3 h4 h5 h6 h7 h8 h9 h10 h11 h12
   obtain ⟨a0, e0, -, p0⟩ := DataW.trod_int Tryz.underlying3 h0
   obtain ⟨a1, e1, -, -⟩ := DataW.trod_int Tryz.underlying3 h1
   obtain ⟨a2, e2, -, -⟩ := DataW.trod_int Tryz.underlying3 h2
   obtain ⟨f3, e3⟩ := open_ef h3
   obtain ⟨a4, e4, -, -⟩ := DataW.trod_string Tryz.underlying9 h4
   obtain ⟨a5, e5, -, p5⟩ := DataW.trod_int Tryz.underlying2 h5
   obtain ⟨a6, e6, -, p6⟩ := DataW.trod_int Tryz.underlying3 h6
   obtain ⟨g7, e7⟩ := open_rgc h7
   obtain ⟨a8, e8, -, -⟩ := DataW.trod_int Tryz.underlying3 h8
   obtain ⟨nm9, dr9, dd9, A9, n9, c9, l9, e9, hS9⟩ := open_defc h9
   obtain ⟨ie10, im10, ii10, ig10, e10⟩ := open_item h10
   obtain ⟨a11, e11, -, -⟩ := DataW.trod_int Tryz.underlying38 h11
   obtain ⟨a12, e12, -, -⟩ := DataW.trod_string Tryz.underlying9 h12
   simp only [List.cons.injEq, and_true] at e0 e1 e2 e3 e4 e5 e6 e7 e8 e9 e10 e11 e12
   exact ⟨{ k := a0, call := a1, saga := a2, e := f3, key := a4, dl := a5, mv := a6, r := g7, gr := a8, dn := nm9, dr := dr9, dd := dd9, dA := A9, dl' := n9, dc := c9, ie := ie10, im := im10, ii := ii10, ig := ig10, res := a11, dat := a12 }, l9, by simp only [cdV, e0, e1, e2, e3, e4, e5, e6, e7, e8, e9, e10, e11, e12], hS9, wf_of p0, wf_of p5, wf_of p6⟩
theorem open_cmds {v : Value} {d : DataW H} {p : List MemPlace} (hval : Value.okWide Tryz.prog w r b0 23 v) (h : DataW.Trod enc Tryz.prog w 0 (fun _ => true) true 23 v d p) : ∃ A n c l, v = .slice A n c ∧ CL w A n l := by
 obtain ⟨A, n, c, rfl⟩ := okWide_slice Tryz.underlying23 hval
 obtain ⟨fuel, hf⟩ := h
 obtain ⟨A', n', c', l, e, hs, hok⟩ := open_list ((⟨0, 0, 0, (0, 0, 0), noText, 0, 0, (noText, noText), 0, noText, 0, 0, none, 0, 0, (0, 0, 0), 0, false, 0, 0, noText⟩ : Cd), ([] : List (ByteArray × Int))) encCd (fun y => SS2 w y.1.dA y.1.dl' y.2 ∧ okCd y.1) Tryz.underlying23 (by kernel_rfl : Tryz.prog.cellsOf 40 = 24) encCd_len (by omega) (fun _ _ _ q => by
  obtain ⟨c, l, e, h1, h2⟩ := open_cmdw q
  exact ⟨(c, l), e, h1, h2⟩) hf
 exact ⟨A', n', c', l, e, hs, hok⟩
theorem open_owds {v : Value} {d : DataW H} {p : List MemPlace} (hval : Value.okWide Tryz.prog w r b0 22 v) (h : DataW.Trod enc Tryz.prog w 0 (fun _ => true) true 22 v d p) : ∃ A n c l, v = .slice A n c ∧ OL w A n l := by
 obtain ⟨A, n, c, rfl⟩ := okWide_slice Tryz.underlying22 hval
 obtain ⟨fuel, hf⟩ := h
 obtain ⟨A', n', c', l, e, hs, hok⟩ := open_list (⟨⟨(noText, noText), [], []⟩, none, 0, 0, none, 0, 0⟩ : OwS) encOw (fun o => KS w o.A1 o.n1 o.y.ks ∧ CS w o.A2 o.n2 o.y.cs) Tryz.underlying22 (by kernel_rfl : Tryz.prog.cellsOf 61 = 4) encOw_len (by omega) (fun _ _ _ q => open_owd1 q) hf
 exact ⟨A', n', c', l, e, hs, hok⟩
end
end Go.Proofs.YtgnjnpddehdmcaaGreatDoor
