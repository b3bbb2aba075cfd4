/- A loop over an iterator that counts in a variable of its own (a captured box): the law of such a loop, where its body never leaves early. No program in sight. -/
import Derived.Test.YtkpfkabdodnooaaGreatDoorShI
import Derived.OrdersHeld
import Derived.Test.YtkpfkabdodnooaaGreatDoorCopy
import Derived.Test.YtkpfkabdodnooaaGreatDoorGet
import Derived.Test.YtkpfkabdodnooaaGreatDoorShE
import Derived.Test.YtkpfkabdodnooaaGreatDoorHas
import Derived.RangeFuncNested
import Derived.RangeFuncBound
import Derived.RangeFuncCalls
import Derived.RangeFuncLeaves
import Derived.RangeFuncBox
namespace Go.Proofs.YtkpfkabdodnooaaGreatDoor
open Go.RowKit Go.Shelf
set_option linter.unusedSimpArgs false
set_option linter.unusedVariables false
set_option linter.unusedSectionVars false
set_option maxRecDepth 10000
theorem joinArms {F : World → Nat → Prop} {G : World → Nat → Prop} {X : Prop} (main : (∀ V ab, F V ab → G V ab) → X) (pf : ∀ V ab, F V ab → G V ab) : X := main pf
theorem tk {P : Program} {md : Region.Mode} {ops : Array Oper} {Q : Exit → Act → World → Prop} {S : World → Prop} {i : Nat} {oi : Oper} {v : Value} {fuel : Nat} {listed l' : Array Bool} {a a' : Act} {w : World} (hi : ops[i]? = some oi := by rfl)
    (hs : Region.noSelect ops = true := by kernel_rfl) (hf : Region.free md ops listed i = true := by kernel_rfl) (hr : (Region.ready md ops listed).contains i = true := by kernel_rfl)
    (hQ : ∀ c a w, Q (.panic c) (a.put oi.dst v) w → Q (.panic c) a w := by exact fun _ _ _ h => h) (hy : YieldsIf P ops S oi v a) (hS : S w)
    (hl : listed.setIfInBounds i true = l' := by first | (simp only [List.setIfInBounds_toArray, List.set_cons_zero, List.set_cons_succ]; rfl) | rfl)
    (ha : a.put oi.dst v = a' := by simp only [List.getElem_toArray, List.getElem_cons_succ, List.getElem_cons_zero, Act.put, List.setIfInBounds_toArray, List.set_cons_zero, List.set_cons_succ]; rfl)
    (h : wpAnyH P md ops Q S fuel l' a' w) : wpAnyH P md ops Q S (fuel + 1) listed a w := by
  subst hl; subst ha
  exact wpAnyH_take hi hs hf hr hQ hy hS h
structure Found (W1 : World) (T : TypeId) (r : Rp) (V : World) (ab : Nat) : Prop where
  bel : Below W1.heap.size W1 V
  ge : W1.heap.size ≤ ab
  blk : V.heap[ab]? = some (.cells #[.int .i64 r.1, .int .i64 r.2.1, .string r.2.2] T (0, 0))
theorem found_store {W1 V : World} {ab : Nat} {cs : Array Value} {T : TypeId} (hb : Below W1.heap.size W1 V) (hge : W1.heap.size ≤ ab) (h : V.heap[ab]? = some (.cells cs T (0, 0))) (hs : cs.size = 3) (r : Rp) :
    Found W1 T r (((V.setCell ⟨ab, 0, none⟩ (.int .i64 r.1)).setCell ⟨ab, 1, none⟩ (.int .i64 r.2.1)).setCell ⟨ab, 2, none⟩ (.string r.2.2)) ab := by
  refine ⟨((hb.setCell (p := ⟨ab, 0, none⟩) hge _).setCell (p := ⟨ab, 1, none⟩) hge _).setCell (p := ⟨ab, 2, none⟩) hge _, hge, ?_⟩
  have h3 := hpSet (i := 2) (v := .string r.2.2) (hpSet (i := 1) (v := .int .i64 r.2.1) (hpSet (i := 0) (v := .int .i64 r.1) h))
  rw [h3]
  congr 2
  have : cs = #[cs[0]'(by omega), cs[1]'(by omega), cs[2]'(by omega)] := by
    apply Array.ext
    · simpa using hs
    · intro i h1 h2
      have : i = 0 ∨ i = 1 ∨ i = 2 := by simp at h2; omega
      rcases this with rfl | rfl | rfl <;> rfl
  rw [this]
  simp
end Go.Proofs.YtkpfkabdodnooaaGreatDoor

namespace Go.Proofs.YtkpfkabdodnooaaGreatDoor
open Go.RowKit Go.Shelf
set_option linter.unusedSimpArgs false
set_option linter.unusedVariables false
set_option linter.unusedSectionVars false
set_option maxRecDepth 10000
theorem ord_putL {size : Int} {P : List En} {x : En} (h : Ord P) : Ord (putL size P x) := by
  unfold putL
  by_cases hc : putC size P x = 0
  · rw [if_pos hc]
    exact ord_ins h (look_none (putC_zero hc).2.1)
  · rw [if_neg hc]; exact h
theorem ok_putL {size : Int} {P : List En} {x : En} (h : ∀ y ∈ P, okP y = true) : ∀ y ∈ putL size P x, okP y = true := by
  unfold putL
  by_cases hc : putC size P x = 0
  · rw [if_pos hc]
    intro y hy
    rcases mem_ins.1 hy with rfl | hy
    · exact (putC_zero hc).1
    · exact h y hy
  · rw [if_neg hc]; exact h
theorem ord_takeL {g : Rg} {P : List En} (h : Ord P) : Ord (takeL g P) := by
  unfold takeL
  split
  · exact h.filter _
  · exact h
theorem ok_takeL {g : Rg} {P : List En} (h : ∀ y ∈ P, okP y = true) : ∀ y ∈ takeL g P, okP y = true := by
  unfold takeL
  split
  · intro y hy
    exact h y (List.mem_filter.1 hy).1
  · exact h
def Kp (D : Nat) (w w' : World) : Prop := ∀ (k : Nat) (cs : Array Value) (T : TypeId) (f : Nat × Nat), w.heap[k]? = some (.cells cs T f) → k ≠ D → T ≠ 111 → w'.heap[k]? = some (.cells cs T f)
structure Tb (base : Nat) (w0 : World) (D : Nat) (size : Int) (P : List En) (w : World) : Prop where
  tab : ∃ A c, TabP base D size A c P w
  bel : Below base w0 w
  le : base ≤ w.heap.size
  ord : Ord P
  ok : ∀ x ∈ P, okP x = true
section
variable {base D : Nat} {size : Int} {P : List En} {w0 w w' : World}
theorem Tb.lt (h : Tb base w0 D size P w) : D < w.heap.size := by obtain ⟨A, c, ht⟩ := h.tab; exact ht.lt
theorem Tb.below (h : Tb base w0 D size P w) (hb : Below w.heap.size w w') : Tb base w0 D size P w' := by
  obtain ⟨A, c, ht⟩ := h.tab
  exact ⟨⟨A, c, ht.below hb⟩, h.bel.trans (hb.mono h.le), Nat.le_trans h.le hb.size, h.ord, h.ok⟩
theorem Tb.kp {A A' : Option Addr} {c : Nat} (ht : TabP base D size A c P w) (hm : Mv D A A' w w') : Kp D w w' := fun k cs T f hk hD hT => (hm.chg.block k (blkX hk) fun q => by
  rcases q with q | q
  · exact hD q
  · exact ht.rowNe hk hT q).trans hk
theorem Tb.moved {A A' : Option Addr} {c c' : Nat} {P' : List En} (h : Tb base w0 D size P w) (ht : TabP base D size A c P w) (ht' : TabP base D size A' c' P' w') (hm : Mv D A A' w w') (ho : Ord P') (hk : ∀ x ∈ P', okP x = true) : Tb base w0 D size P' w' :=
  ⟨⟨A', c', ht'⟩, Chg.belowAfter h.bel hm.chg h.le (fun k hk q => by
    rcases q with q | q
    · have := ht.ge; omega
    · have := (ht.rowLt k q).1; omega), Nat.le_trans h.le hm.chg.size, ho, hk⟩
theorem Tb.put (h : Tb base w0 D size P w) (y : Ef) (key : ByteArray) (r : Rp) (hkey : key.size ≤ 140737488355328) :
    Calls Tryz.prog 67 #[.pointer (some ⟨D, 0, none⟩), .agg #[.int .i64 y.1, .int .i64 y.2.1, .int .i64 y.2.2], .string key, .agg #[.int .i64 r.1, .int .i64 r.2.1, .string r.2.2]] w fun e w' => e = .returned (.int .i64 (putC size P ⟨y, key, r⟩)) ∧ Tb base w0 D size (putL size P ⟨y, key, r⟩) w' ∧ Kp D w w' ∧ w.heap.size ≤ w'.heap.size := by
  obtain ⟨A, c, ht⟩ := h.tab
  refine (put_any ht h.ord h.le y key r hkey).mono ?_
  rintro e w' ⟨A', c', rfl, ht', hm⟩
  exact ⟨rfl, h.moved ht ht' hm (ord_putL h.ord) (ok_putL h.ok), Tb.kp ht hm, hm.chg.size⟩
theorem Tb.take (h : Tb base w0 D size P w) (a b : ByteArray) (ha : a.size ≤ 140737488355328) (hb : b.size ≤ 140737488355328) :
    Calls Tryz.prog 75 #[.pointer (some ⟨D, 0, none⟩), .agg #[.string a, .string b]] w fun e w' => ∃ B m d, e = .returned (.tuple #[.slice B m d, .int .i64 (takeC (a, b))]) ∧ m = (takeO (a, b) P).length ∧ ES w' B m (takeO (a, b) P) ∧ (∀ k, rowOf B = some k → w.heap.size ≤ k) ∧ Tb base w0 D size (takeL (a, b) P) w' ∧ Kp D w w' ∧ w.heap.size ≤ w'.heap.size := by
  obtain ⟨A, c, ht⟩ := h.tab
  refine (take_any ht h.ok a b ha hb).mono ?_
  rintro e w' ⟨B, m, d, rfl, hm, hE, hB, ht', hv⟩
  exact ⟨B, m, d, rfl, hm, hE, hB, h.moved ht ht' hv (ord_takeL h.ord) (ok_takeL h.ok), Tb.kp ht hv, hv.chg.size⟩
theorem Tb.all (h : Tb base w0 D size P w) :
    Calls Tryz.prog 87 #[.pointer (some ⟨D, 0, none⟩)] w fun e w' => ∃ B m d, e = .returned (.slice B m d) ∧ m = P.length ∧ ES w' B m (P.map En.e) ∧ (∀ g, rowOf B = some g → w.heap.size ≤ g ∧ ∃ cs, w'.heap[g]? = some (.cells cs 23 (0, 0))) ∧ Tb base w0 D size P w' ∧ Below w.heap.size w w' := by
  obtain ⟨A, c, ht⟩ := h.tab
  refine (all_any ht).mono ?_
  rintro e w' ⟨B, m, d, rfl, hm, hE, hB, hb⟩
  exact ⟨B, m, d, rfl, hm, hE, hB, h.below hb, hb⟩
end
end Go.Proofs.YtkpfkabdodnooaaGreatDoor

namespace Go.Proofs.YtkpfkabdodnooaaGreatDoor
open Go.RowKit Go.Shelf
set_option linter.unusedSimpArgs false
set_option linter.unusedVariables false
set_option linter.unusedSectionVars false
set_option maxRecDepth 10000
section
variable {base : Nat} {p p' : Pl} {x x' : Sh} {w w' : World}
theorem ShW.setS (h : ShW base p x w) {A' : Option Addr} {c' : Nat} {o' : List Rg} {ap : Int} (hb : w'.heap[p.S]? = some (.cells (shV { p with A := A', c := c' } { x with own := o', app := ap }) 43 (0, 0))) (hg : GOwn base w' A' o'.length c' o') (hc : Chg (fun k => k = p.S) w w') (hn : ∀ k, rowOf A' = some k → rowOf p.A = some k ∨ w.heap.size ≤ k) (hok : ∀ g ∈ o', okG g = true) :
    ShTo base p { p with A := A', c := c' } { x with own := o', app := ap } w w' := by
  have hk : ∀ k, k < w.heap.size → k ≠ p.S → w'.heap[k]? = w.heap[k]? := fun k hl q => hc.block k hl q
  have hty : ∀ (k : Nat) (cs : Array Value) (T : TypeId) (f : Nat × Nat), w.heap[k]? = some (.cells cs T f) → T ≠ 43 → w'.heap[k]? = w.heap[k]? := fun k cs T f hc1 h1 => hk k (blkX hc1) (ne_cells hc1 h.blk h1)
  have hmp : ∀ {kt : TypeId} {b n : Nat} {f : Value → Option Value}, MapOf Tryz.prog kt w b n f → w'.heap[b]? = w.heap[b]? := fun hb => hk _ hb.lt fun q => MapOf.ncell hb (q ▸ h.blk)
  refine ⟨⟨h.ge, h.gg, h.gt, hb, hg, h.st.keep (hty _ _ _ _ h.st.blk (by decide)) (hmp h.st.map), h.mem.keep hc.size fun k hl q => ?_, MapOf.keep h.giv (hmp h.giv), MapOf.keep h.tak (hmp h.tak), hok, h.ord, h.okm, h.ogiv, h.otak, h.nMG, h.nMT, h.nGT⟩, ⟨hc.os, hc.tape, hc.output, hc.size, fun k hl q => hc.block k hl fun e => q (.inl e)⟩, fun k hk => ?_, rfl⟩
  · rcases q with rfl | q
    · exact hty _ _ _ _ h.mem.blk (by decide)
    · obtain ⟨cs, hc1⟩ := row_cells h.mem.own q
      exact hty _ _ _ _ hc1 (by decide)
  · rcases hk with q | q | q | q | q | q | q | q
    · exact .inl (.inl q)
    · exact .inl (.inr (.inl q))
    · exact .inl (.inr (.inr (.inl q)))
    · exact .inl (.inr (.inr (.inr (.inl q))))
    · exact .inl (.inr (.inr (.inr (.inr (.inl q)))))
    · exact .inl (.inr (.inr (.inr (.inr (.inr (.inl q))))))
    · exact (hn k q).imp (fun q => .inr (.inr (.inr (.inr (.inr (.inr (.inl q))))))) id
    · exact .inl (.inr (.inr (.inr (.inr (.inr (.inr (.inr q)))))))
theorem ShW.setApp (h : ShW base p x w) (a : Int) : ShTo base p p { x with app := a } w (w.setCell ⟨p.S, 1, none⟩ (.int .i64 a)) :=
  h.setS (A' := p.A) (c' := p.c) (o' := x.own) (ap := a) (hpSet (i := 1) (v := .int .i64 a) h.blk) (by
    rcases h.own.2 with e | ⟨g, cp, cur, e1, e2, hh, r⟩
    · exact ⟨h.own.1, .inl e⟩
    · exact ⟨h.own.1, .inr ⟨g, cp, cur, e1, e2, (hpFar (ne_cells hh h.blk (by decide))).trans hh, r⟩⟩) ⟨rfl, rfl, rfl, by simp, fun k hk hn => hpFar (by simp only; exact hn)⟩ (fun k q => .inl q) h.ok
theorem ShW.other {b : Nat} (h : ShW base p x w) (hc : Chg (fun k => k = b) w w') (hm : ∀ (cs : Array Value) (T : TypeId) (f : Nat × Nat), w.heap[b]? ≠ some (.cells cs T f)) (k : Nat) (cs : Array Value) (T : TypeId) (f : Nat × Nat) (hk : w.heap[k]? = some (.cells cs T f)) : w'.heap[k]? = w.heap[k]? :=
  hc.block k (blkX hk) fun q => hm _ _ _ (q ▸ hk)
theorem ShW.setGiv (h : ShW base p x w) {l : List (Int × ByteArray)} (hm : MapI Tryz.prog 3 givE w' p.G l) (ho : AOrd ltZ l) (hc : Chg (fun k => k = p.G) w w') : ShTo base p p { x with giv := l } w w' := by
  have hx := h.other hc (fun _ _ _ => MapOf.ncell h.giv)
  refine ⟨⟨h.ge, h.gg, h.gt, (hx _ _ _ _ h.blk).trans h.blk, ?_, h.st.keep (hx _ _ _ _ h.st.blk) (hc.block _ h.st.mlt h.nMG), h.mem.keep hc.size fun k hl q => ?_, hm, MapOf.keep h.tak (hc.block _ h.tak.lt h.nGT.symm), h.ok, h.ord, h.okm, ho, h.otak, h.nMG, h.nMT, h.nGT⟩, ⟨hc.os, hc.tape, hc.output, hc.size, fun k hl q => hc.block k hl fun e => q (.inr (.inr (.inr (.inr (.inl e)))))⟩, fun k hk => .inl hk, rfl⟩
  · rcases h.own.2 with e | ⟨g, cp, cur, e1, e2, hh, r⟩
    · exact ⟨h.own.1, .inl e⟩
    · exact ⟨h.own.1, .inr ⟨g, cp, cur, e1, e2, (hx _ _ _ _ hh).trans hh, r⟩⟩
  · rcases q with rfl | q
    · exact hx _ _ _ _ h.mem.blk
    · obtain ⟨cs, hc1⟩ := row_cells h.mem.own q
      exact hx _ _ _ _ hc1
end
end Go.Proofs.YtkpfkabdodnooaaGreatDoor

namespace Go.Proofs.YtkpfkabdodnooaaGreatDoor
open Go.RowKit
variable {F : Fence} {n : Nat} {P : Program}

def SeqBox {α : Type} (F : Fence) (n : Nat) (P : Program) (g : Nat) (lb : Array Value) (encs : α → Array Value) (bn : Nat) (xs : List α) (w : World) : Prop :=
  ∀ (l : Nat) (J : List α → World → Prop) (W : World), W.heap[bn]? = w.heap[bn]? → (∀ s A v, J s A → J s (A.setCell ⟨bn, 0, none⟩ v)) →
    (∀ pre x rest W1, xs = pre ++ x :: rest → J pre W1 → YieldAt F (n - 1) P l (encs x) W1 fun e W' => e = .returned (.bool true) ∧ J (pre ++ [x]) W' ∧ W'.heap[bn]? = W1.heap[bn]?) →
    J [] W → CallsIn F n P g (#[.func (.yield l) #[] #[]] ++ lb) W fun e W' => (∃ v, e = .returned v) ∧ J xs W'

def boxPost {α : Type} (B bn : Nat) (I : List α → World → Prop) (xs : List α) (W : World) : Exit → Act → World → Prop
  | .normal, _, W' => KeepsFrom B W W' ∧ W'.heap[bn]? = W.heap[bn]? ∧ I xs W'
  | _, _, _ => False

theorem wpIn_rangeBox {α : Type} {g : Operand} {ps : Array Tmp} {assign body : Code} {Q : Exit → Act → World → Prop} {a : Act} {w : World}
    (hro : F.round = none) (h1 : 1 ≤ n) {gf : Nat} {lb : Array Value} (hg : a.eval g = .func (.func gf) #[] lb) (hFg : F.fn gf) (eg : ∀ args w, (callFunc gf args).run P w = .ok (.enter gf args) w)
    {encs : α → Array Value} {bn : Nat} {xs : List α} (hseq : SeqBox F (n - 1) P gf lb encs bn xs w) (hbn : bn < w.heap.size) (hps : ∀ x, (encs x).size = ps.size)
    (I : List α → World → Prop) (hI : OwnFrom w.heap.size I) (hIb : ∀ s A v, I s A → I s (A.setCell ⟨bn, 0, none⟩ v)) (h0 : I [] w) (a₁ : α → Act)
    (hassign : ∀ (l : Nat) (x : α) (W : World) (K : Act → World → Prop), K (a₁ x) W →
      assign.wpIn (F.inRound l) (n - 1 - 1) P (Exit.then K (fun _ _ _ => False)) { tmps := (ps.zip (encs x)).foldl (fun t (p, v) => t.setIfInBounds p v) a.tmps, defers := [] } W)
    (hbody : ∀ (l : Nat) (pre : List α) (x : α) (rest : List α) (W : World), xs = pre ++ x :: rest → I pre W → body.wpIn (F.inRound l) (n - 1 - 1) P (boxPost w.heap.size bn I (pre ++ [x]) W) (a₁ x) W)
    (hdone : ∀ (D : Nat) (W : World), w.heap.size ≤ D → I xs W → W.heap[D]? = some (.deferred (some [])) → Q .normal { a with defers := { target := .collected D, args := #[] } :: a.defers } W) :
    (Code.rangeFunc g ps assign body).wpIn F n P Q a w := by
  refine wpIn_rangeFunc ?_
  intro fn hfn
  rw [hro]
  obtain ⟨rec, hrec⟩ : ∃ rec : LoopState → Option Code → Loop, rec = fun st pe => { state := st, pending := pe, fn, tmps := a.tmps, params := ps, assign, body, defers := w.heap.size } := ⟨_, rfl⟩
  obtain ⟨V, hV⟩ : ∃ V, (w.alloc (.deferred (some []))).alloc (.loop (rec .ready none)) = V := ⟨_, rfl⟩
  have vL : V.heap[w.heap.size + 1]? = some (.loop (rec .ready none)) := by
    have := World.alloc_heap_new (w.alloc (.deferred (some []))) (.loop (rec .ready none))
    rw [World.size_alloc] at this
    rw [← hV]; exact this
  have vD : V.heap[w.heap.size]? = some (.deferred (some [])) := by
    rw [← hV]; exact (Below.heap_alloc _ _ _ (by simp)).trans (World.alloc_heap_new w _)
  have vI : I [] V := by rw [← hV]; exact hI.alloc _ (hI.alloc _ h0)
  have vb : V.heap[bn]? = w.heap[bn]? := by
    rw [← hV]; exact (Below.heap_alloc _ _ _ (by simp; omega)).trans (Below.heap_alloc _ _ _ hbn)
  refine ⟨w.heap.size + 1, [{ target := .collected w.heap.size, args := #[] }], V, { target := .fn (.func gf) lb, args := #[.func (.yield (w.heap.size + 1)) #[] #[]] }, V, gf,
    #[.func (.yield (w.heap.size + 1)) #[] #[]] ++ lb, V, ?_, ?_, ?_, ?_, fun _ => h1, ?_⟩
  · rw [← hV, hrec]; exact run_enterLoop_outer _ _ _ _ _
  · simp only [resolve, hg]
    simp [go_sem]
  · intro f' hf'; simp [Target.leads] at hf'; subst hf'; exact hFg
  · simp [invoke, go_sem, eg]
  refine (hseq (w.heap.size + 1) (fun pre W => I pre W ∧ W.heap[w.heap.size + 1]? = some (.loop (rec .ready none)) ∧ W.heap[w.heap.size]? = some (.deferred (some []))) V vb ?_ ?_ ⟨vI, vL, vD⟩).mono ?_
  · rintro s A v ⟨i1, i2, i3⟩
    exact ⟨hIb s A v i1, (Below.heap_setCell _ _ _ _ (by dsimp only; omega)).trans i2, (Below.heap_setCell _ _ _ _ (by dsimp only; omega)).trans i3⟩
  · rintro pre x rest W hxs ⟨hi, hl, hk⟩
    have hlt : w.heap.size + 1 < W.heap.size := (Array.getElem?_eq_some_iff.1 hl).1
    have hy := run_yield (P := P) (args := encs x) hl (by rw [hrec]; exact hps x)
    rw [hrec] at hy
    refine ⟨fn, _, assign, body, hy, roundIn_of_wpIn hfn (hassign _ x W _ ⟨_, run_beginRound hl (by rw [hrec]), ?_⟩)⟩
    obtain ⟨U, hU⟩ : ∃ U, W.putObj (w.heap.size + 1) (.loop { rec .ready none with state := .busy }) = U := ⟨_, rfl⟩
    have uL : U.heap[w.heap.size + 1]? = some (.loop { rec .ready none with state := .busy }) := by rw [← hU]; exact World.putObj_heap_same hlt
    have uD : U.heap[w.heap.size]? = some (.deferred (some [])) := by rw [← hU]; exact (World.putObj_heap_other (by omega)).trans hk
    have ub : U.heap[bn]? = W.heap[bn]? := by rw [← hU]; exact World.putObj_heap_other (by omega)
    have uI : I pre U := by rw [← hU]; exact hI.putObj _ hi (by omega) hl rfl
    rw [show W.putObj (w.heap.size + 1) (.loop { rec .ready none with state := .busy }) = U from hU]
    refine wpIn_mono (hbody _ pre x rest _ hxs uI) ?_
    rintro e a3 W3 hp
    cases e with
    | normal =>
      obtain ⟨hk3, hb3, hi3⟩ := hp
      have hl3 := hk3.same _ _ (by omega) uL rfl
      have hr := run_endRound (P := P) none hl3
      rw [hrec] at hr
      refine ⟨_, _, hr, rfl, ⟨hI.putObj _ hi3 (by omega) hl3 rfl, ?_, ?_⟩, ?_⟩
      · rw [hrec]; exact World.putObj_heap_same (Array.getElem?_eq_some_iff.1 hl3).1
      · exact (World.putObj_heap_other (by omega)).trans (hk3.same _ _ (Nat.le_refl _) uD rfl)
      · exact (World.putObj_heap_other (by omega)).trans (hb3.trans ub)
    | ret => exact hp.elim
    | exit id => exact hp.elim
    | goto t => exact hp.elim
    | panic ch => exact hp.elim
    | outgrown => exact hp.elim
  · rintro e W2 ⟨⟨v, rfl⟩, hi, hl, hk⟩
    have hr := run_endLoop (P := P) hl (by rw [hrec]; simp)
    rw [hrec] at hr
    exact ⟨none, _, hr, hdone _ _ (Nat.le_refl _) (hI.putObj _ hi (by omega) hl rfl) ((World.putObj_heap_other (by omega)).trans hk)⟩
end Go.Proofs.YtkpfkabdodnooaaGreatDoor
