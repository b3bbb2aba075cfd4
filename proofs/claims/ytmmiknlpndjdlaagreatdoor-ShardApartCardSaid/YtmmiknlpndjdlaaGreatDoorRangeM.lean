/- A loop over an iterator that hands over memory which it has just laid: the law of such a loop, where its body may leave early. No program in sight. -/
import Derived.Test.YtmmiknlpndjdlaaGreatDoorShI
import Derived.OrdersHeld
import Derived.Test.YtmmiknlpndjdlaaGreatDoorCopy
import Derived.Test.YtmmiknlpndjdlaaGreatDoorGet
import Derived.Test.YtmmiknlpndjdlaaGreatDoorClG
import Derived.Test.YtmmiknlpndjdlaaGreatDoorHasG
import Derived.Shelf.GgSortFunc.RowK
import Derived.Test.YtmmiknlpndjdlaaGreatDoorHas
import Derived.RangeFuncNested
import Derived.RangeFuncBound
import Derived.RangeFuncCalls
import Derived.RangeFuncLeaves
import Derived.RangeFuncBox
namespace Go.Proofs.YtmmiknlpndjdlaaGreatDoor
open Go.RowKit Go.Shelf
set_option linter.unusedSimpArgs false
set_option linter.unusedVariables false
set_option linter.unusedSectionVars false
set_option maxRecDepth 10000
theorem joinArms {F : World → Nat → Prop} {G : World → Nat → Prop} {X : Prop} (main : (∀ V ab, F V ab → G V ab) → X) (pf : ∀ V ab, F V ab → G V ab) : X := main pf
theorem tk {P : Program} {md : Region.Mode} {ops : Array Oper} {Q : Exit → Act → World → Prop} {S : World → Prop} {i : Nat} {oi : Oper} {v : Value} {fuel : Nat} {listed l' : Array Bool} {a a' : Act} {w : World} (hi : ops[i]? = some oi := by rfl)
  (hs : Region.noSelect ops = true := by kernel_rfl) (hf : Region.free md ops listed i = true := by kernel_rfl) (hr : (Region.ready md ops listed).contains i = true := by kernel_rfl)
  (hQ : ∀ c a w, Q (.panic c) (a.put oi.dst v) w → Q (.panic c) a w := by exact fun _ _ _ h => h) (hy : YieldsIf P ops S oi v a) (hS : S w)
  (hl : listed.setIfInBounds i true = l' := by first | (simp only [List.setIfInBounds_toArray, List.set_cons_zero, List.set_cons_succ]; rfl) | rfl)
  (ha : a.put oi.dst v = a' := by simp only [List.getElem_toArray, List.getElem_cons_succ, List.getElem_cons_zero, Act.put, List.setIfInBounds_toArray, List.set_cons_zero, List.set_cons_succ]; rfl)
  (h : wpAnyH P md ops Q S fuel l' a' w) : wpAnyH P md ops Q S (fuel + 1) listed a w := by
 subst hl; subst ha
 exact wpAnyH_take hi hs hf hr hQ hy hS h
theorem tl {P : Program} {md : Region.Mode} {ops : Array Oper} {Q : Exit → Act → World → Prop} {S : World → Prop} (i : Nat) {oi : Oper} {v : Value} {fuel : Nat} {listed l' : Array Bool} {a a' : Act} {w : World} (hS : S w) (h : wpAnyH P md ops Q S fuel l' a' w) (hi : ops[i]? = some oi := by rfl)
    (hs : Region.noSelect ops = true := by kernel_rfl) (hf : Region.free md ops listed i = true := by kernel_rfl) (hr : (Region.ready md ops listed).contains i = true := by kernel_rfl)
    (hQ : ∀ c a w, Q (.panic c) (a.put oi.dst v) w → Q (.panic c) a w := by exact fun _ _ _ h => h) (hy : YieldsIf P ops S oi v a := by exact .inl ⟨by rfl, by intro w hSw; go_simp; first | done | with_reducible rfl⟩)
    (hl : listed.setIfInBounds i true = l' := by first | (simp only [List.setIfInBounds_toArray, List.set_cons_zero, List.set_cons_succ]; rfl) | rfl)
    (ha : a.put oi.dst v = a' := by simp only [List.getElem_toArray, List.getElem_cons_succ, List.getElem_cons_zero, Act.put, List.setIfInBounds_toArray, List.set_cons_zero, List.set_cons_succ]; rfl)
    : wpAnyH P md ops Q S (fuel + 1) listed a w := tk (hi := hi) (hs := hs) (hf := hf) (hr := hr) (hQ := hQ) (hy := hy) (hS := hS) (hl := hl) (ha := ha) (h := h)
theorem ts {P : Program} {md : Region.Mode} {ops : Array Oper} {Q : Exit → Act → World → Prop} {S : World → Prop} (i : Nat) {oi : Oper} {fuel : Nat} {listed l' : Array Bool} {a a' : Act} {w : World} (hS : S w) (h : wpAnyH P md ops Q S fuel l' a' w) (hi : ops[i]? = some oi := by rfl)
    (hs : Region.noSelect ops = true := by kernel_rfl) (hf : Region.free md ops listed i = true := by kernel_rfl) (hr : (Region.ready md ops listed).contains i = true := by kernel_rfl)
    (hQ : ∀ c a w, Q (.panic c) (a.put oi.dst undef) w → Q (.panic c) a w := by exact fun _ _ _ h => h) (hy : YieldsIf P ops S oi undef a := by exact .inr ⟨by rfl, rfl⟩)
    (hl : listed.setIfInBounds i true = l' := by first | (simp only [List.setIfInBounds_toArray, List.set_cons_zero, List.set_cons_succ]; rfl) | rfl)
    (ha : a.put oi.dst undef = a' := by simp only [List.getElem_toArray, List.getElem_cons_succ, List.getElem_cons_zero, Act.put, List.setIfInBounds_toArray, List.set_cons_zero, List.set_cons_succ]; rfl)
    : wpAnyH P md ops Q S (fuel + 1) listed a w := tk (hi := hi) (hs := hs) (hf := hf) (hr := hr) (hQ := hQ) (hy := hy) (hS := hS) (hl := hl) (ha := ha) (h := h)
structure Found (W1 : World) (T : TypeId) (r : Rp) (V : World) (ab : Nat) : Prop where
 bel : Below W1.heap.size W1 V
 ge : W1.heap.size ≤ ab
 blk : V.heap[ab]? = some (.cells #[.int .i64 r.1, .int .i64 r.2.1, .string r.2.2] T (0, 0))
theorem found_store {W1 V : World} {ab : Nat} {cs : Array Value} {T : TypeId} (hb : Below W1.heap.size W1 V) (hge : W1.heap.size ≤ ab) (h : V.heap[ab]? = some (.cells cs T (0, 0))) (hs : cs.size = 3) (r : Rp) :
  Found W1 T r (((V.setCell ⟨ab, 0, none⟩ (.int .i64 r.1)).setCell ⟨ab, 1, none⟩ (.int .i64 r.2.1)).setCell ⟨ab, 2, none⟩ (.string r.2.2)) ab := by
 refine ⟨((hb.setCell (p := ⟨ab, 0, none⟩) hge _).setCell (p := ⟨ab, 1, none⟩) hge _).setCell (p := ⟨ab, 2, none⟩) hge _, hge, ?_⟩
 have h3 := hpSet (i := 2) (v := .string r.2.2) (hpSet (i := 1) (v := .int .i64 r.2.1) (hpSet (i := 0) (v := .int .i64 r.1) h))
 rw [h3]
 congr 2
 have : cs = #[cs[0]'(by omega), cs[1]'(by omega), cs[2]'(by omega)] := by
  apply Array.ext
  ·
   simpa using hs
  ·
   intro i h1 h2
   have : i = 0 ∨ i = 1 ∨ i = 2 := by simp at h2; omega
   rcases this with rfl | rfl | rfl <;> rfl
 rw [this]
 simp
theorem ord_putL {size : Int} {P : List En} {x : En} (h : Ord P) : Ord (putL size P x) := by
 unfold putL
 by_cases hc : putC size P x = 0
 ·
  rw [if_pos hc]
  exact ord_ins h (look_none (putC_zero hc).2.1)
 ·
  rw [if_neg hc]; exact h
theorem ok_putL {size : Int} {P : List En} {x : En} (h : ∀ y ∈ P, okP y = true) : ∀ y ∈ putL size P x, okP y = true := by
 unfold putL
 by_cases hc : putC size P x = 0
 ·
  rw [if_pos hc]
  intro y hy
  rcases mem_ins.1 hy with rfl | hy
  ·
   exact (putC_zero hc).1
  ·
   exact h y hy
 ·
  rw [if_neg hc]; exact h
theorem ord_takeL {g : Rg} {P : List En} (h : Ord P) : Ord (takeL g P) := by
 unfold takeL
 split
 ·
  exact h.filter _
 ·
  exact h
theorem ok_takeL {g : Rg} {P : List En} (h : ∀ y ∈ P, okP y = true) : ∀ y ∈ takeL g P, okP y = true := by
 unfold takeL
 split
 ·
  intro y hy
  exact h y (List.mem_filter.1 hy).1
 ·
  exact h
def Kp (D : Nat) (w w' : World) : Prop := ∀ (k : Nat) (cs : Array Value) (T : TypeId) (f : Nat × Nat), w.heap[k]? = some (.cells cs T f) → k ≠ D → T ≠ 161 → w'.heap[k]? = some (.cells cs T f)
structure Tb (base : Nat) (w0 : World) (D : Nat) (size : Int) (P : List En) (w : World) : Prop where
 tab : ∃ A c, TabP base D size A c P w
 bel : Below base w0 w
 le : base ≤ w.heap.size
 ord : Ord P
 ok : ∀ x ∈ P, okP x = true
section
variable {base D : Nat} {size : Int} {P : List En} {w0 w w' : World}
theorem Tb.lt (h : Tb base w0 D size P w) : D < w.heap.size := by obtain ⟨A, c, ht⟩ := h.tab; exact ht.lt
theorem Tb.below (h : Tb base w0 D size P w) (hb : Below w.heap.size w w') : Tb base w0 D size P w' := by
 obtain ⟨A, c, ht⟩ := h.tab
 exact ⟨⟨A, c, ht.below hb⟩, h.bel.trans (hb.mono h.le), Nat.le_trans h.le hb.size, h.ord, h.ok⟩
theorem Tb.kp {A A' : Option Addr} {c : Nat} (ht : TabP base D size A c P w) (hm : Mv D A A' w w') : Kp D w w' := fun k cs T f hk hD hT => (hm.chg.block k (blkX hk) fun q => by
 rcases q with q | q
 ·
  exact hD q
 ·
  exact ht.rowNe hk hT q).trans hk
theorem Tb.moved {A A' : Option Addr} {c c' : Nat} {P' : List En} (h : Tb base w0 D size P w) (ht : TabP base D size A c P w) (ht' : TabP base D size A' c' P' w') (hm : Mv D A A' w w') (ho : Ord P') (hk : ∀ x ∈ P', okP x = true) : Tb base w0 D size P' w' :=
 ⟨⟨A', c', ht'⟩, Chg.belowAfter h.bel hm.chg h.le (fun k hk q => by
  rcases q with q | q
  ·
   have := ht.ge; omega
  ·
   have := (ht.rowLt k q).1; omega), Nat.le_trans h.le hm.chg.size, ho, hk⟩
theorem Tb.put (h : Tb base w0 D size P w) (y : Ef) (key : ByteArray) (r : Rp) (hkey : key.size ≤ 140737488355328) :
  Calls Tryz.prog 47 #[.pointer (some ⟨D, 0, none⟩), .agg #[.int .i64 y.1, .int .i64 y.2.1, .int .i64 y.2.2], .string key, .agg #[.int .i64 r.1, .int .i64 r.2.1, .string r.2.2]] w fun e w' => e = .returned (.int .i64 (putC size P ⟨y, key, r⟩)) ∧ Tb base w0 D size (putL size P ⟨y, key, r⟩) w' ∧ Kp D w w' ∧ w.heap.size ≤ w'.heap.size := by
 obtain ⟨A, c, ht⟩ := h.tab
 refine (put_any ht h.ord h.le y key r hkey).mono ?_
 rintro e w' ⟨A', c', rfl, ht', hm⟩
 exact ⟨rfl, h.moved ht ht' hm (ord_putL h.ord) (ok_putL h.ok), Tb.kp ht hm, hm.chg.size⟩
theorem Tb.take (h : Tb base w0 D size P w) (a b : ByteArray) (ha : a.size ≤ 140737488355328) (hb : b.size ≤ 140737488355328) :
  Calls Tryz.prog 55 #[.pointer (some ⟨D, 0, none⟩), .agg #[.string a, .string b]] w fun e w' => ∃ B m d, e = .returned (.tuple #[.slice B m d, .int .i64 (takeC (a, b))]) ∧ m = (takeO (a, b) P).length ∧ ES w' B m (takeO (a, b) P) ∧ (∀ k, rowOf B = some k → w.heap.size ≤ k) ∧ Tb base w0 D size (takeL (a, b) P) w' ∧ Kp D w w' ∧ w.heap.size ≤ w'.heap.size := by
 obtain ⟨A, c, ht⟩ := h.tab
 refine (take_any ht h.ok a b ha hb).mono ?_
 rintro e w' ⟨B, m, d, rfl, hm, hE, hB, ht', hv⟩
 exact ⟨B, m, d, rfl, hm, hE, hB, h.moved ht ht' hv (ord_takeL h.ord) (ok_takeL h.ok), Tb.kp ht hv, hv.chg.size⟩
theorem Tb.all (h : Tb base w0 D size P w) :
  Calls Tryz.prog 64 #[.pointer (some ⟨D, 0, none⟩)] w fun e w' => ∃ B m d, e = .returned (.slice B m d) ∧ m = P.length ∧ ES w' B m (P.map En.e) ∧ (∀ g, rowOf B = some g → w.heap.size ≤ g ∧ ∃ cs, w'.heap[g]? = some (.cells cs 29 (0, 0))) ∧ Tb base w0 D size P w' ∧ Below w.heap.size w w' := by
 obtain ⟨A, c, ht⟩ := h.tab
 refine (all_any ht).mono ?_
 rintro e w' ⟨B, m, d, rfl, hm, hE, hB, hb⟩
 exact ⟨B, m, d, rfl, hm, hE, hB, h.below hb, hb⟩
theorem Tb.get (h : Tb base w0 D size P w) (y : Ef) : Calls Tryz.prog 40 #[.pointer (some ⟨D, 0, none⟩), .agg #[.int .i64 y.1, .int .i64 y.2.1, .int .i64 y.2.2]] w fun e w' => e = .returned (.tuple #[.agg #[.int .i64 (getR P y).1, .int .i64 (getR P y).2.1, .string (getR P y).2.2], .bool (hasB P y)]) ∧ Tb base w0 D size P w' ∧ Below w.heap.size w w' := by
 obtain ⟨A, c, ht⟩ := h.tab
 refine (Get_any ht h.ord y).mono ?_
 rintro e w' ⟨rfl, hb⟩
 exact ⟨rfl, h.below hb, hb⟩
end
end Go.Proofs.YtmmiknlpndjdlaaGreatDoor

namespace Go.Proofs.YtmmiknlpndjdlaaGreatDoor
open Go.RowKit Go.Shelf
set_option linter.unusedSimpArgs false
set_option linter.unusedVariables false
set_option linter.unusedSectionVars false
set_option maxRecDepth 10000
section
variable {base : Nat} {p p' : Pl} {x x' : Sh} {w w' : World}
theorem ShW.setS (h : ShW base p x w) {A' : Option Addr} {c' : Nat} {o' : List Rg} {ap : Int} (hb : w'.heap[p.S]? = some (.cells (shV { p with A := A', c := c' } { x with own := o', app := ap }) 73 (0, 0))) (hg : GOwn base w' A' o'.length c' o') (hc : Chg (fun k => k = p.S) w w') (hn : ∀ k, rowOf A' = some k → rowOf p.A = some k ∨ w.heap.size ≤ k) (hok : ∀ g ∈ o', okG g = true) :
  ShTo base p { p with A := A', c := c' } { x with own := o', app := ap } w w' := by
 have hk : ∀ k, k < w.heap.size → k ≠ p.S → w'.heap[k]? = w.heap[k]? := fun k hl q => hc.block k hl q
 have hty : ∀ (k : Nat) (cs : Array Value) (T : TypeId) (f : Nat × Nat), w.heap[k]? = some (.cells cs T f) → T ≠ 73 → w'.heap[k]? = w.heap[k]? := fun k cs T f hc1 h1 => hk k (blkX hc1) (ne_cells hc1 h.blk h1)
 have hmp : ∀ {kt : TypeId} {b n : Nat} {f : Value → Option Value}, MapOf Tryz.prog kt w b n f → w'.heap[b]? = w.heap[b]? := fun hb => hk _ hb.lt fun q => MapOf.ncell hb (q ▸ h.blk)
 refine ⟨⟨h.ge, h.gg, h.gt, hb, hg, h.st.keep (hty _ _ _ _ h.st.blk (by decide)) (hmp h.st.map), h.mem.keep hc.size fun k hl q => ?_, MapOf.keep h.giv (hmp h.giv), MapOf.keep h.tak (hmp h.tak), hok, h.ord, h.okm, h.ogiv, h.otak, h.nMG, h.nMT, h.nGT⟩, ⟨hc.os, hc.tape, hc.output, hc.size, fun k hl q => hc.block k hl fun e => q (.inl e)⟩, fun k hk => ?_, rfl⟩
 ·
  rcases q with rfl | q
  ·
   exact hty _ _ _ _ h.mem.blk (by decide)
  ·
   obtain ⟨cs, hc1⟩ := row_cells h.mem.own q
   exact hty _ _ _ _ hc1 (by decide)
 ·
  rcases hk with q | q | q | q | q | q | q | q
  ·
   exact .inl (.inl q)
  ·
   exact .inl (.inr (.inl q))
  ·
   exact .inl (.inr (.inr (.inl q)))
  ·
   exact .inl (.inr (.inr (.inr (.inl q))))
  ·
   exact .inl (.inr (.inr (.inr (.inr (.inl q)))))
  ·
   exact .inl (.inr (.inr (.inr (.inr (.inr (.inl q))))))
  ·
   exact (hn k q).imp (fun q => .inr (.inr (.inr (.inr (.inr (.inr (.inl q))))))) id
  ·
   exact .inl (.inr (.inr (.inr (.inr (.inr (.inr (.inr q)))))))
theorem ShW.setApp (h : ShW base p x w) (a : Int) : ShTo base p p { x with app := a } w (w.setCell ⟨p.S, 1, none⟩ (.int .i64 a)) :=
 h.setS (A' := p.A) (c' := p.c) (o' := x.own) (ap := a) (hpSet (i := 1) (v := .int .i64 a) h.blk) (by
  rcases h.own.2 with e | ⟨g, cp, cur, e1, e2, hh, r⟩
  ·
   exact ⟨h.own.1, .inl e⟩
  ·
   exact ⟨h.own.1, .inr ⟨g, cp, cur, e1, e2, (hpFar (ne_cells hh h.blk (by decide))).trans hh, r⟩⟩) ⟨rfl, rfl, rfl, by simp, fun k hk hn => hpFar (by simp only; exact hn)⟩ (fun k q => .inl q) h.ok
theorem ShW.other {b : Nat} (h : ShW base p x w) (hc : Chg (fun k => k = b) w w') (hm : ∀ (cs : Array Value) (T : TypeId) (f : Nat × Nat), w.heap[b]? ≠ some (.cells cs T f)) (k : Nat) (cs : Array Value) (T : TypeId) (f : Nat × Nat) (hk : w.heap[k]? = some (.cells cs T f)) : w'.heap[k]? = w.heap[k]? :=
 hc.block k (blkX hk) fun q => hm _ _ _ (q ▸ hk)
theorem ShW.setGiv (h : ShW base p x w) {l : List (Int × ByteArray)} (hm : MapI Tryz.prog 3 givE w' p.G l) (ho : AOrd ltZ l) (hc : Chg (fun k => k = p.G) w w') : ShTo base p p { x with giv := l } w w' := by
 have hx := h.other hc (fun _ _ _ => MapOf.ncell h.giv)
 refine ⟨⟨h.ge, h.gg, h.gt, (hx _ _ _ _ h.blk).trans h.blk, ?_, h.st.keep (hx _ _ _ _ h.st.blk) (hc.block _ h.st.mlt h.nMG), h.mem.keep hc.size fun k hl q => ?_, hm, MapOf.keep h.tak (hc.block _ h.tak.lt h.nGT.symm), h.ok, h.ord, h.okm, ho, h.otak, h.nMG, h.nMT, h.nGT⟩, ⟨hc.os, hc.tape, hc.output, hc.size, fun k hl q => hc.block k hl fun e => q (.inr (.inr (.inr (.inr (.inl e)))))⟩, fun k hk => .inl hk, rfl⟩
 ·
  rcases h.own.2 with e | ⟨g, cp, cur, e1, e2, hh, r⟩
  ·
   exact ⟨h.own.1, .inl e⟩
  ·
   exact ⟨h.own.1, .inr ⟨g, cp, cur, e1, e2, (hx _ _ _ _ hh).trans hh, r⟩⟩
 ·
  rcases q with rfl | q
  ·
   exact hx _ _ _ _ h.mem.blk
  ·
   obtain ⟨cs, hc1⟩ := row_cells h.mem.own q
   exact hx _ _ _ _ hc1
end
end Go.Proofs.YtmmiknlpndjdlaaGreatDoor

namespace Go.Proofs.YtmmiknlpndjdlaaGreatDoor
open Go.RowKit Go.Sort
set_option linter.unusedSimpArgs false
set_option linter.unusedVariables false
section
variable {α : Type} [Inhabited α] {enc : α → List Value} {k : Nat}
theorem flatK_flat (hk : ∀ x, (enc x).length = k) (hp : 0 < k) (l : List α) : flatK enc k l.toArray = (flat enc l).toArray := by
 refine ext_get! (by simp [flat_length hk]) fun t ht => ?_
 have ht' : t < l.length * k := by simpa using ht
 rw [get_flatK enc k _ t (by simpa using ht')]
 have hi : t / k < l.length := Nat.div_lt_of_lt_mul (by rw [Nat.mul_comm]; exact ht')
 have hx : l[t / k]? = some l[t / k] := List.getElem?_eq_getElem hi
 have h1 := flat_get hk l (t / k) _ (t % k) hx (Nat.mod_lt _ hp)
 rw [show t / k * k + t % k = t from by rw [Nat.mul_comm]; exact Nat.div_add_mod t k] at h1
 have h2 : l.toArray[t / k]! = l[t / k] := by simp [hi]
 rw [h2]
 have h3 : t % k < (enc l[t / k]).length := by rw [hk]; exact Nat.mod_lt _ hp
 rw [List.getElem?_eq_getElem h3] at h1
 simp only [List.getElem!_toArray, List.getElem!_eq_getElem?_getD, h1, List.getElem?_eq_getElem h3]
theorem holdsK_of_own {W : World} {base n c g : Nat} {e : TypeId} {l : List α} (hk : ∀ x, (enc x).length = k) (hp : 0 < k) (h : W.ownsRow base e k (.slice (some ⟨g, 0, none⟩) n c) n (flat enc l)) (hl : l.length = n) : HoldsK enc k W g 0 l.toArray := by
 unfold HoldsK
 rw [flatK_flat hk hp]
 intro j hj
 have hj' : j < (flat enc l).length := by simpa using hj
 rcases h.2 with ⟨e0, _⟩ | ⟨g', cap', cur, e0, hb, hg, hn, hm, hs, ht⟩
 ·
  cases e0
 ·
  injection e0 with e1 _ e3
  injection e1 with e1
  injection e1 with e1
  subst e1; subst e3
  rw [flat_length hk, hl] at hj'
  have h1 : (cur.toList.take (n * k))[j]? = (flat enc l)[j]? := by rw [ht]
  rw [List.getElem?_take, if_pos hj'] at h1
  refine ⟨?_, by simp [World.frozen?, hg]⟩
  have h2 : (flat enc l)[j]? = some (flat enc l)[j]! := by
   rw [List.getElem!_eq_getElem?_getD, List.getElem?_eq_getElem (by rw [flat_length hk, hl]; exact hj')]; rfl
  simp only [World.cell?, hg, Nat.zero_add, id]
  rw [← Array.getElem?_toList, h1, h2]
  simp
theorem own_putRowK {W : World} {base n c g q : Nat} {e : TypeId} {l l' : List α} (hk : ∀ x, (enc x).length = k) (hp : 0 < k) (h : W.ownsRow base e k (.slice (some ⟨g, 0, none⟩) n c) n (flat enc l)) (hl' : l'.length = n) :
  (putRowK enc k (Sort.ahead W q) g 0 l'.toArray).ownsRow base e k (.slice (some ⟨g, 0, none⟩) n c) n (flat enc l') := by
 unfold putRowK
 rw [flatK_flat hk hp]
 rcases h.2 with ⟨e0, _⟩ | ⟨g', cap', cur, e0, hb, hg, hn, hm, hs, ht⟩
 ·
  cases e0
 ·
  injection e0 with e1 _ e3
  injection e1 with e1
  injection e1 with e1
  subst e1; subst e3
  have hnk : n * k ≤ c * k := Nat.mul_le_mul_right k hn
  refine ⟨by rw [flat_length hk, hl'], .inr ⟨g, c, putCells id 0 (flat enc l').toArray cur, rfl, hb, ?_, hn, hm, by simpa [putCells] using hs, ?_⟩⟩
  ·
   simp [putRow, mapBlock, Sort.ahead, Array.getElem?_modify, hg, onCells]
  ·
   apply List.ext_getElem?
   intro j
   rw [List.getElem?_take, Array.getElem?_toList]
   by_cases hj : j < n * k
   ·
    have hjc : j < cur.size := by omega
    have hjl : j < (flat enc l').length := by rw [flat_length hk, hl']; exact hj
    simp only [if_pos hj, putCells, Array.getElem?_mapIdx, Array.getElem?_eq_getElem hjc, Option.map_some, id]
    rw [if_pos (by simp; omega), List.getElem?_eq_getElem hjl]
    simp [hjl]
   ·
    rw [if_neg hj, List.getElem?_eq_none (by rw [flat_length hk, hl']; omega)]
theorem grownBy_putRowK {W : World} {g q : Nat} (d : Array α) : W.grownBy (putRowK enc k (Sort.ahead W q) g 0 d) (some g) := by
 refine ⟨rfl, rfl, rfl, by simp [putRowK, putRow, mapBlock, Sort.ahead], fun j hj hne => ?_⟩
 have : g ≠ j := fun e => hne (by rw [e])
 simp [putRowK, putRow, mapBlock, Sort.ahead, Array.getElem?_modify, this]
end
end Go.Proofs.YtmmiknlpndjdlaaGreatDoor

namespace Go.Proofs.YtmmiknlpndjdlaaGreatDoor
open Go.RowKit
set_option linter.unusedVariables false
variable {F : Fence} {n : Nat} {P : Program}

theorem grown_any {A B : World} {row : Option Nat} (h : A.grownBy B none) : A.grownBy B row := ⟨h.os, h.tape, h.output, h.size, fun k hk _ => h.block k hk (fun e => by cases e)⟩

def memPost {α : Type} (B : Nat) (Kp : World → World → Prop) (I : List α → World → Prop) (Ix : Code → List α → World → Prop) (xs : List α) (W : World) : Exit → Act → World → Prop
 | .normal, _, W' => KeepsFrom B W W' ∧ Kp W W' ∧ I xs W'
 | .ret, _, W' => KeepsFrom B W W' ∧ Ix .ret xs W'
 | .exit id, _, W' => KeepsFrom B W W' ∧ Ix (.exit id) xs W'
 | .goto t, _, W' => KeepsFrom B W W' ∧ Ix (.goto t) xs W'
 | .panic _, _, _ => False
 | .outgrown, _, _ => False

end Go.Proofs.YtmmiknlpndjdlaaGreatDoor
