/- As RangeM, for iterators that may also make memory ahead of the first round. -/
import Derived.Test.YtgnjnpddehdmcaaGreatDoorWRead
import Derived.Laws.BytesArg
import Derived.Test.YtgnjnpddehdmcaaGreatDoorShort
import Derived.Test.YtgnjnpddehdmcaaGreatDoorHas
import Derived.RangeFuncNested
import Derived.RangeFuncBound
import Derived.RangeFuncCalls
import Derived.RangeFuncLeaves
import Derived.RangeFuncBox
namespace Go.Proofs.YtgnjnpddehdmcaaGreatDoor.Wi
open Go.RowKit
set_option linter.unusedSimpArgs false
set_option linter.unusedVariables false
set_option linter.unusedSectionVars false
set_option maxRecDepth 10000

theorem RB.first {w : World} {A : Option Addr} {n k : Nat} {xs : List UInt8} (h : RB w A n xs) (hk : k ≤ n) : RB w A k (xs.take k) := by
 refine ⟨by rw [List.length_take, h.1]; omega, fun hn => ?_⟩
 obtain ⟨ad, rfl, hb, hcell⟩ := h.2 (by omega)
 refine ⟨ad, rfl, hb, fun j u hu => hcell j u ?_⟩
 have hj := (List.getElem?_eq_some_iff.1 hu).1
 rw [bvs_length, List.length_take] at hj
 rw [← hu]
 simp only [bvs, List.getElem?_map, List.getElem?_take]
 rw [if_pos (by omega)]
theorem RB.str {w : World} {A : Option Addr} {n : Nat} {xs : List UInt8} (h : RB w A n xs) (c : Nat) : (convert 189 9 (.slice A n c)).run Tryz.prog w = .ok (.string ⟨xs.toArray⟩) w := by
 obtain ⟨hl, hc⟩ := h
 cases A with
 | none =>
  have h0 : n = 0 := by
   rcases Nat.eq_zero_or_pos n with h0 | h0
   ·
    exact h0
   ·
    obtain ⟨ad, e, _⟩ := hc h0; cases e
  subst h0
  have hx : xs = [] := List.eq_nil_of_length_eq_zero hl
  subst hx
  exact run_convert_bytes_nil w 189 5 Tryz.underlying189 Tryz.underlying5 0 c 9 Tryz.underlying9
 | some a =>
  subst hl
  refine run_convert_bytes_back w 189 9 5 a c xs Tryz.underlying189 Tryz.underlying5 Tryz.underlying9 fun j hj => ?_
  obtain ⟨ad, e, _, hc⟩ := hc (by omega)
  have e2 : a = ad := Option.some.inj e
  rw [e2]
  exact hc j _ (by simp [bvs, bv, hj])

section
variable (A : Option Addr) (n c : Nat) (xs : List UInt8) (w : World) (h : RB w A n xs) (hn : n ≤ 70368744177664) (hc : n ≤ c)
include h hn
include hc
end
end Go.Proofs.YtgnjnpddehdmcaaGreatDoor.Wi

namespace Go.Proofs.YtgnjnpddehdmcaaGreatDoor
open Go.RowKit Go.Shelf
set_option linter.unusedSimpArgs false
set_option linter.unusedVariables false
set_option linter.unusedSectionVars false
set_option maxRecDepth 10000
def encM (y : En) : List Value := [.int .i64 y.e.1, .int .i64 y.e.2.1, .int .i64 y.e.2.2, .string y.k, .int .i64 y.r.1, .int .i64 y.r.2.1, .string y.r.2.2]
abbrev MS (w : World) (A : Option Addr) (n : Nat) (l : List En) : Prop := SL encM 7 w A n l
def cnN (c : Cn) : List Int := [c.1, c.2.1, c.2.2.1, c.2.2.2.1, c.2.2.2.2]
def efN (e : Ef) : List Int := [e.1, e.2.1, e.2.2]
def bNs (l : List Int) : List UInt8 := l.flatMap fun a => Wi.enc (Wi.zig a)
def bUs (l : List Int) : List UInt8 := l.flatMap fun a => Wi.enc a.toNat
def bTx (s : ByteArray) : List UInt8 := Wi.enc s.size ++ s.data.toList
def bKv (y : ByteArray × Cn) : List UInt8 := bTx y.1 ++ bNs (cnN y.2)
def bEn (y : En) : List UInt8 := bUs (efN y.e) ++ bTx y.k ++ Wi.enc y.r.1.toNat ++ Wi.enc (Wi.zig y.r.2.1) ++ bTx y.r.2.2
def bPar (kv : Ct) (ds : List En) : List UInt8 := Wi.enc kv.length ++ kv.flatMap bKv ++ Wi.enc ds.length ++ ds.flatMap bEn
def I64 (a : Int) : Prop := -9223372036854775808 ≤ a ∧ a ≤ 9223372036854775807
def U63 (a : Int) : Prop := 0 ≤ a ∧ a ≤ 9223372036854775807
theorem flat_next {α : Type} (f : α → List UInt8) {l : List α} {j : Nat} {x : α} (h : l[j]? = some x) : (l.take (j + 1)).flatMap f = (l.take j).flatMap f ++ f x := by
 rw [List.take_add_one, h]; simp
theorem flat_le {α : Type} (f : α → List UInt8) {B : Nat} : ∀ {l : List α}, (∀ x ∈ l, (f x).length ≤ B) → (l.flatMap f).length ≤ B * l.length
 | [], _ => by simp
 | x :: l, h => by
  rw [List.flatMap_cons, List.length_append, List.length_cons, Nat.mul_succ]
  have := flat_le f (l := l) (fun y hy => h y (List.mem_cons_of_mem _ hy))
  have := h x (by simp)
  omega
theorem flat_leT {α : Type} (f : α → List UInt8) {B : Nat} {l : List α} (h : ∀ x ∈ l, (f x).length ≤ B) (j : Nat) : ((l.take j).flatMap f).length ≤ B * l.length := by
 refine Nat.le_trans (flat_le f (fun x hx => h x (List.mem_of_mem_take hx))) (Nat.mul_le_mul_left _ (by rw [List.length_take]; omega))
theorem bTx_len {s : ByteArray} {n : Nat} (h : s.size ≤ n) (hn : n ≤ 1000000) : (bTx s).length ≤ n + 10 := by
 unfold bTx
 have h1 := Wi.enc_len (n := s.size) (by omega)
 rw [List.length_append]
 have h2 : s.data.toList.length = s.size := by rw [Array.length_toList]; rfl
 omega
theorem bNs_len {l : List Int} (h : ∀ a ∈ l, I64 a) : (bNs l).length ≤ 10 * l.length := flat_le _ fun a ha => Wi.enc_len (Wi.zig_lt (h a ha).1 (h a ha).2)
theorem bUs_len {l : List Int} (h : ∀ a ∈ l, U63 a) : (bUs l).length ≤ 10 * l.length := flat_le _ fun a ha => Wi.enc_len (by have := h a ha; unfold U63 at this; omega)
def fitKv (y : ByteArray × Cn) : Prop := y.1.size ≤ 100 ∧ ∀ a ∈ cnN y.2, I64 a
structure fitEn (y : En) : Prop where
 e : ∀ a ∈ efN y.e, U63 a
 k : y.k.size ≤ 100
 r : U63 y.r.1
 n : I64 y.r.2.1
 d : y.r.2.2.size ≤ 65536
theorem bKv_len {y : ByteArray × Cn} (h : fitKv y) : (bKv y).length ≤ 200 := by
 unfold bKv
 have h1 := bTx_len h.1 (by omega)
 have h2 := bNs_len h.2
 rw [List.length_append]
 simp only [cnN, List.length_cons, List.length_nil] at h2 ⊢
 omega
theorem bEn_len {y : En} (h : fitEn y) : (bEn y).length ≤ 66000 := by
 unfold bEn
 have h1 := bUs_len h.e
 have h2 := bTx_len h.k (by omega)
 have h3 := bTx_len h.d (by omega)
 have h4 := Wi.enc_len (n := y.r.1.toNat) (by have := h.r; unfold U63 at this; omega)
 have h5 := Wi.enc_len (Wi.zig_lt h.n.1 h.n.2)
 simp only [List.length_append]
 simp only [efN, List.length_cons, List.length_nil] at h1 ⊢
 omega
structure EW (w0 : World) (g : Nat) (ys : List UInt8) (W : World) : Prop where
 bel : Below w0.heap.size w0 W
 ge : w0.heap.size ≤ g
 wr : ∃ A c, Wi.IsWr 237 W g A c ys ∧ ∀ k, Wi.rowOf A = some k → w0.heap.size ≤ k
section
variable {w0 W W' : World} {g : Nat} {ys zs : List UInt8}
theorem EW.below (h : EW w0 g ys W) (hb : Below W.heap.size W W') : EW w0 g ys W' := by
 obtain ⟨A, c, hi, hr⟩ := h.wr
 exact ⟨h.bel.trans (hb.mono h.bel.size), h.ge, A, c, hi.below hb, hr⟩
structure EWto (w0 : World) (g : Nat) (zs : List UInt8) (W W' : World) : Prop where
 ew : EW w0 g zs W'
 keep : ∀ (k : Nat) (cs : Array Value) (t : TypeId), W.heap[k]? = some (.cells cs t (0, 0)) → t ≠ 237 → t ≠ 5 → W'.heap[k]? = some (.cells cs t (0, 0))
theorem EW.next {A : Option Addr} {c : Nat} (h : EW w0 g ys W) (hi : Wi.IsWr 237 W g A c ys) (hr : ∀ k, Wi.rowOf A = some k → w0.heap.size ≤ k) (hto : Wi.WrTo 237 W g A zs W') : EWto w0 g zs W W' := by
 obtain ⟨A', c', h1, hm, hc⟩ := hto
 refine ⟨⟨Wi.Chg.belowAfter h.bel hc h.bel.size (fun k hk q => ?_), h.ge, A', c', h1, fun k hk => ?_⟩, fun k cs t hk ht1 ht2 => (hc.block k (blkX hk) fun q => ?_).trans hk⟩
 ·
  rcases q with rfl | q
  ·
   have := h.ge; omega
  ·
   have := hr k q; omega
 ·
  rcases hm with e | ⟨k', e, hk'⟩
  ·
   exact hr k (e ▸ hk)
  ·
   rw [hk] at e; injection e with e
   have := h.bel.size; omega
 ·
  rcases q with rfl | q
  ·
   have := hi.blk
   rw [hk] at this
   injection this with this
   injection this with _ this
   exact ht1 this
  ·
   exact hi.rowNe (by decide) hk ht2 q
theorem EW.start (hb : Below w0.heap.size w0 W) : EW w0 W.heap.size [] (W.alloc (.cells #[.bool true, .slice none 0 0] 237)) := by
 refine ⟨hb.trans ((Below.refl _ _).alloc hb.size _), hb.size, none, 0, ⟨hpNew _ _, World.ownsRow_nil _ _ _ _⟩, fun k hk => by cases hk⟩
theorem EW.uint (h : EW w0 g ys W) (n : Nat) (hn : n < 18446744073709551616) (hl : ys.length ≤ 1000000000) : Calls Tryz.prog 99 #[.pointer (some ⟨g, 0, none⟩), .int .u64 n] W fun e W' => e = .returned (.tuple #[]) ∧ EWto w0 g (ys ++ Wi.enc n) W W' := by
 obtain ⟨A, c, hi, hr⟩ := h.wr
 exact (Wi.wUint_any g A c ys n W hi hn hl).mono fun e W' q => ⟨q.1, h.next hi hr q.2⟩
theorem EW.uintI (h : EW w0 g ys W) (a : Int) (ha : U63 a) (hl : ys.length ≤ 1000000000) : Calls Tryz.prog 99 #[.pointer (some ⟨g, 0, none⟩), .int .u64 a] W fun e W' => e = .returned (.tuple #[]) ∧ EWto w0 g (ys ++ Wi.enc a.toNat) W W' := by
 obtain ⟨n, rfl⟩ := Int.eq_ofNat_of_zero_le ha.1
 exact h.uint n (by have := ha.2; omega) hl
theorem EW.int (h : EW w0 g ys W) (a : Int) (ha : I64 a) (hl : ys.length ≤ 1000000000) : Calls Tryz.prog 111 #[.pointer (some ⟨g, 0, none⟩), .int .i64 a] W fun e W' => e = .returned (.tuple #[]) ∧ EWto w0 g (ys ++ Wi.enc (Wi.zig a)) W W' := by
 obtain ⟨A, c, hi, hr⟩ := h.wr
 exact (Wi.wInt_any g A c ys W hi hl a ha.1 ha.2).mono fun e W' q => ⟨q.1, h.next hi hr q.2⟩
theorem EW.text (h : EW w0 g ys W) (s : ByteArray) (hs : s.size ≤ 1000000000) (hl : ys.length ≤ 1000000000) : Calls Tryz.prog 122 #[.pointer (some ⟨g, 0, none⟩), .string s] W fun e W' => e = .returned (.tuple #[]) ∧ EWto w0 g (ys ++ bTx s) W W' := by
 obtain ⟨A, c, hi, hr⟩ := h.wr
 exact (Wi.wText_any g A c ys W hi hl s hs).mono fun e W' q => ⟨q.1, h.next hi hr (by have := q.2; rwa [List.append_assoc] at this)⟩
theorem EW.bytes (h : EW w0 g ys W) (hl : ys.length ≤ 1000000000) : Calls Tryz.prog 171 #[.pointer (some ⟨g, 0, none⟩)] W fun e W' => ∃ A c, e = .returned (.slice A ys.length c) ∧ Wi.RB W' A ys.length ys ∧ Below W.heap.size W W' := by
 obtain ⟨A, c, hi, hr⟩ := h.wr
 exact (Wi.wBytes_any g A c ys W hi hl).mono fun e W' ⟨A', c', q1, q2⟩ => ⟨A', c', q1, Wi.RB.of_own q2.1, q2.2⟩
end
end Go.Proofs.YtgnjnpddehdmcaaGreatDoor

namespace Go.Proofs.YtgnjnpddehdmcaaGreatDoor
open Go.RowKit
set_option linter.unusedVariables false
variable {F : Fence} {n : Nat} {P : Program}

theorem grown_any {A B : World} {row : Option Nat} (h : A.grownBy B none) : A.grownBy B row := ⟨h.os, h.tape, h.output, h.size, fun k hk _ => h.block k hk (fun e => by cases e)⟩

def memPost {α : Type} (B : Nat) (Kp : World → World → Prop) (I : List α → World → Prop) (Ix : Code → List α → World → Prop) (xs : List α) (W : World) : Exit → Act → World → Prop
 | .normal, _, W' => KeepsFrom B W W' ∧ Kp W W' ∧ I xs W'
 | .ret, _, W' => KeepsFrom B W W' ∧ Ix .ret xs W'
 | .exit id, _, W' => KeepsFrom B W W' ∧ Ix (.exit id) xs W'
 | .goto t, _, W' => KeepsFrom B W W' ∧ Ix (.goto t) xs W'
 | .panic _, _, _ => False
 | .outgrown, _, _ => False

end Go.Proofs.YtgnjnpddehdmcaaGreatDoor

namespace Go.Proofs.YtgnjnpddehdmcaaGreatDoor
open Go.RowKit
set_option linter.unusedVariables false
variable {F : Fence} {n : Nat} {P : Program}
def SeqMemG {α : Type} (F : Fence) (n : Nat) (P : Program) (g : Nat) (lb : Array Value) (R : α → Array Value → World → World → Prop) (Kp : World → World → Prop) (xs : List α) (w : World) : Prop :=
 ∀ (l : Nat) (J Jx : List α → World → Prop) (W : World), Kp w W → (∀ pre A B, J pre A → A.grownBy B none → J pre B) →
  (∀ pre x rest vs W0 W1, xs = pre ++ x :: rest → J pre W0 → W0.grownBy W1 none → R x vs W0 W1 → YieldAt F (n - 1) P l vs W1 fun e W' =>
   (e = .returned (.bool true) ∧ J (pre ++ [x]) W' ∧ Kp W1 W') ∨ (e = .returned (.bool false) ∧ Jx (pre ++ [x]) W')) →
  J [] W → CallsIn F n P g (#[.func (.yield l) #[] #[]] ++ lb) W fun e W' => (∃ v, e = .returned v) ∧ (J xs W' ∨ ∃ pre x rest, xs = pre ++ x :: rest ∧ Jx (pre ++ [x]) W')

theorem wpIn_rangeMemG {α : Type} {g : Operand} {ps : Array Tmp} {assign body : Code} {Q : Exit → Act → World → Prop} {a : Act} {w : World}
    (hro : F.round = none) (h1 : 1 ≤ n) {gf : Nat} {lb : Array Value} (hg : a.eval g = .func (.func gf) #[] lb) (hFg : F.fn gf) (eg : ∀ args w, (callFunc gf args).run P w = .ok (.enter gf args) w)
    {R : α → Array Value → World → World → Prop} {Kp : World → World → Prop} {xs : List α} (hseq : SeqMemG F (n - 1) P gf lb R Kp xs w)
    (hKr : ∀ A, Kp A A) (hKt : ∀ {A B C : World}, Kp A B → Kp B C → Kp A C) (hKg : ∀ (A B : World) row, A.grownBy B row → (∀ r, row = some r → w.heap.size ≤ r ∧ ∃ o : Obj, A.heap[r]? = some o ∧ o.isCells = false) → w.heap.size ≤ A.heap.size → Kp A B)
    (hRs : ∀ x vs W0 W1, R x vs W0 W1 → vs.size = ps.size) (hRo : ∀ x vs W0, OwnFrom w.heap.size (fun (_ : Unit) W => R x vs W0 W))
    (I : List α → World → Prop) (Ix : Code → List α → World → Prop) (hI : OwnFrom w.heap.size I) (hIx : ∀ c, OwnFrom w.heap.size (Ix c)) (h0 : I [] w) (a₁ : Array Value → Act)
    (hassign : ∀ (l : Nat) (x : α) (vs : Array Value) (W0 W : World) (K : Act → World → Prop), R x vs W0 W → K (a₁ vs) W →
      assign.wpIn (F.inRound l) (n - 1 - 1) P (Exit.then K (fun _ _ _ => False)) { tmps := (ps.zip vs).foldl (fun t (p, v) => t.setIfInBounds p v) a.tmps, defers := [] } W)
    (hbody : ∀ (l : Nat) (pre : List α) (x : α) (rest : List α) (vs : Array Value) (W0 W : World), xs = pre ++ x :: rest → w.heap.size ≤ l → (∃ o : Obj, W0.heap[l]? = some o ∧ o.isCells = false) → W0.grownBy W (some l) → I pre W0 → I pre W → R x vs W0 W →
      body.wpIn (F.inRound l) (n - 1 - 1) P (memPost w.heap.size Kp I Ix (pre ++ [x]) W) (a₁ vs) W)
    (hdone : ∀ (D : Nat) (W : World), w.heap.size ≤ D → I xs W → W.heap[D]? = some (.deferred (some [])) → Q .normal { a with defers := { target := .collected D, args := #[] } :: a.defers } W)
    (hstop : ∀ (D : Nat) (c : Code) (pre : List α) (x : α) (rest : List α) (W : World), w.heap.size ≤ D → xs = pre ++ x :: rest → Ix c (pre ++ [x]) W → W.heap[D]? = some (.deferred (some [])) → c.wpIn F n P Q { a with defers := { target := .collected D, args := #[] } :: a.defers } W) :
    (Code.rangeFunc g ps assign body).wpIn F n P Q a w := by
  refine wpIn_rangeFunc ?_
  intro fn hfn
  rw [hro]
  obtain ⟨rec, hrec⟩ : ∃ rec : LoopState → Option Code → Loop, rec = fun st pe => { state := st, pending := pe, fn, tmps := a.tmps, params := ps, assign, body, defers := w.heap.size } := ⟨_, rfl⟩
  obtain ⟨V, hV⟩ : ∃ V, (w.alloc (.deferred (some []))).alloc (.loop (rec .ready none)) = V := ⟨_, rfl⟩
  have vL : V.heap[w.heap.size + 1]? = some (.loop (rec .ready none)) := by
    have := World.alloc_heap_new (w.alloc (.deferred (some []))) (.loop (rec .ready none))
    rw [World.size_alloc] at this
    rw [← hV]; exact this
  have vD : V.heap[w.heap.size]? = some (.deferred (some [])) := by
    rw [← hV]; exact (Below.heap_alloc _ _ _ (by simp)).trans (World.alloc_heap_new w _)
  have vI : I [] V := by rw [← hV]; exact hI.alloc _ (hI.alloc _ h0)
  have vK : Kp w V := by
    rw [← hV]
    exact hKt (hKg _ _ none (World.grownBy_alloc w _ none) (fun r e => by cases e) (Nat.le_refl _)) (hKg _ _ none (World.grownBy_alloc _ _ none) (fun r e => by cases e) (by simp))
  refine ⟨w.heap.size + 1, [{ target := .collected w.heap.size, args := #[] }], V, { target := .fn (.func gf) lb, args := #[.func (.yield (w.heap.size + 1)) #[] #[]] }, V, gf,
    #[.func (.yield (w.heap.size + 1)) #[] #[]] ++ lb, V, ?_, ?_, ?_, ?_, fun _ => h1, ?_⟩
  · rw [← hV, hrec]; exact run_enterLoop_outer _ _ _ _ _
  · simp only [resolve, hg]
    simp [go_sem]
  · intro f' hf'; simp [Target.leads] at hf'; subst hf'; exact hFg
  · simp [invoke, go_sem, eg]
  refine (hseq (w.heap.size + 1) (fun pre W => I pre W ∧ W.heap[w.heap.size + 1]? = some (.loop (rec .ready none)) ∧ W.heap[w.heap.size]? = some (.deferred (some [])))
    (fun pre W => ∃ c, Ix c pre W ∧ W.heap[w.heap.size + 1]? = some (.loop (rec .done (some c))) ∧ W.heap[w.heap.size]? = some (.deferred (some [])))
    V vK (fun pre A B h hg => ⟨hI _ _ _ none h.1 hg (fun r e => by cases e), (hg.block _ (Array.getElem?_eq_some_iff.1 h.2.1).1 (fun e => by cases e)).trans h.2.1, (hg.block _ (Array.getElem?_eq_some_iff.1 h.2.2).1 (fun e => by cases e)).trans h.2.2⟩) ?_ ⟨vI, vL, vD⟩).mono ?_
  · rintro pre x rest vs W0 W hxs ⟨hi, hl0, hk0⟩ hgr hR
    have hl : W.heap[w.heap.size + 1]? = some (.loop (rec .ready none)) := (hgr.block _ (Array.getElem?_eq_some_iff.1 hl0).1 (fun e => by cases e)).trans hl0
    have hk : W.heap[w.heap.size]? = some (.deferred (some [])) := (hgr.block _ (Array.getElem?_eq_some_iff.1 hk0).1 (fun e => by cases e)).trans hk0
    have hlt : w.heap.size + 1 < W.heap.size := (Array.getElem?_eq_some_iff.1 hl).1
    have hy := run_yield (P := P) (args := vs) hl (by rw [hrec]; exact hRs x vs _ _ hR)
    rw [hrec] at hy
    refine ⟨fn, _, assign, body, hy, roundIn_of_wpIn hfn (hassign _ x vs W0 W _ hR ⟨_, run_beginRound hl (by rw [hrec]), ?_⟩)⟩
    obtain ⟨U, hU⟩ : ∃ U, W.putObj (w.heap.size + 1) (.loop { rec .ready none with state := .busy }) = U := ⟨_, rfl⟩
    have uL : U.heap[w.heap.size + 1]? = some (.loop { rec .ready none with state := .busy }) := by rw [← hU]; exact World.putObj_heap_same hlt
    have uD : U.heap[w.heap.size]? = some (.deferred (some [])) := by rw [← hU]; exact (World.putObj_heap_other (by omega)).trans hk
    have uG : W0.grownBy U (some (w.heap.size + 1)) := by
      rw [← hU]
      exact (grown_any hgr).trans (grownBy_putObj' W _ _)
    have uI : I pre U := by rw [← hU]; exact hI.putObj _ (hI _ _ _ none hi hgr (fun r e => by cases e)) (by omega) hl rfl
    have uR : R x vs W0 U := by rw [← hU]; exact (hRo x vs W0).putObj (s := ()) _ hR (by omega) hl rfl
    have uK : Kp W U := by rw [← hU]; exact hKg _ _ (some (w.heap.size + 1)) (grownBy_putObj' W _ _) (fun r e => by cases e; exact ⟨by omega, _, hl, rfl⟩) (by omega)
    rw [show W.putObj (w.heap.size + 1) (.loop { rec .ready none with state := .busy }) = U from hU]
    refine wpIn_mono (hbody _ pre x rest vs W0 U hxs (by omega) ⟨_, hl0, rfl⟩ uG hi uI uR) ?_
    have fin : ∀ (jump : Option Code) (W3 : World), KeepsFrom w.heap.size U W3 →
        (Instr.endRound (w.heap.size + 1) jump).run P W3 = .ok (.bool jump.isNone) (W3.putObj (w.heap.size + 1) (.loop (rec (if jump.isNone then .ready else .done) jump))) ∧
        W3.heap[w.heap.size + 1]? = some (.loop { rec .ready none with state := .busy }) ∧
        (W3.putObj (w.heap.size + 1) (.loop (rec (if jump.isNone then .ready else .done) jump))).heap[w.heap.size + 1]? = some (.loop (rec (if jump.isNone then .ready else .done) jump)) ∧
        (W3.putObj (w.heap.size + 1) (.loop (rec (if jump.isNone then .ready else .done) jump))).heap[w.heap.size]? = some (.deferred (some [])) := fun jump W3 hk3 => by
      have hl3 := hk3.same _ _ (by omega) uL rfl
      have := run_endRound (P := P) jump hl3
      rw [hrec] at this ⊢
      exact ⟨this, by rw [hrec] at hl3; exact hl3, World.putObj_heap_same (Array.getElem?_eq_some_iff.1 hl3).1, (World.putObj_heap_other (by omega)).trans (hk3.same _ _ (Nat.le_refl _) uD rfl)⟩
    rintro e a3 W3 hp
    cases e with
    | normal =>
      obtain ⟨hk3, hkp3, hi3⟩ := hp
      obtain ⟨hr, hl3, hl4, hk4⟩ := fin none W3 hk3
      exact ⟨_, _, hr, .inl ⟨rfl, ⟨hI.putObj _ hi3 (by omega) hl3 rfl, hl4, hk4⟩, hKt (hKt uK hkp3) (hKg _ _ (some (w.heap.size + 1)) (grownBy_putObj' W3 _ _) (fun r e => by cases e; exact ⟨by omega, _, hl3, rfl⟩) (by have := (Array.getElem?_eq_some_iff.1 hl3).1; omega))⟩⟩
    | ret =>
      obtain ⟨hk3, hi3⟩ := hp
      obtain ⟨hr, hl3, hl4, hk4⟩ := fin (some .ret) W3 hk3
      exact ⟨_, _, hr, .inr ⟨rfl, .ret, (hIx _).putObj _ hi3 (by omega) hl3 rfl, hl4, hk4⟩⟩
    | exit id =>
      obtain ⟨hk3, hi3⟩ := hp
      obtain ⟨hr, hl3, hl4, hk4⟩ := fin (some (.exit id)) W3 hk3
      exact ⟨_, _, hr, .inr ⟨rfl, .exit id, (hIx _).putObj _ hi3 (by omega) hl3 rfl, hl4, hk4⟩⟩
    | goto t =>
      obtain ⟨hk3, hi3⟩ := hp
      obtain ⟨hr, hl3, hl4, hk4⟩ := fin (some (.goto t)) W3 hk3
      exact ⟨_, _, hr, .inr ⟨rfl, .goto t, (hIx _).putObj _ hi3 (by omega) hl3 rfl, hl4, hk4⟩⟩
    | panic ch => exact hp.elim
    | outgrown => exact hp.elim
  · rintro e W2 ⟨⟨v, rfl⟩, (⟨hi, hl, hk⟩ | ⟨pre, x, rest, hx, c, hi, hl, hk⟩)⟩
    · exact ⟨none, _, by have := run_endLoop (P := P) hl (by rw [hrec]; simp); rw [hrec] at this; exact this, hdone _ _ (Nat.le_refl _) (hI.putObj _ hi (by omega) hl rfl) ((World.putObj_heap_other (by omega)).trans hk)⟩
    · exact ⟨some c, _, by have := run_endLoop (P := P) hl (by rw [hrec]; simp); rw [hrec] at this; exact this, hstop _ c pre x rest _ (Nat.le_refl _) hx ((hIx c).putObj _ hi (by omega) hl rfl) ((World.putObj_heap_other (by omega)).trans hk)⟩
end Go.Proofs.YtgnjnpddehdmcaaGreatDoor
