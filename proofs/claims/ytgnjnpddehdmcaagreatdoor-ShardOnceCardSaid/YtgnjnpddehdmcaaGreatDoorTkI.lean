/- What holds in take's loop. -/
import Derived.Test.YtgnjnpddehdmcaaGreatDoorShort
import Derived.Test.YtgnjnpddehdmcaaGreatDoorRowK
import Derived.Test.YtgnjnpddehdmcaaGreatDoorRangeG
import Derived.Test.YtgnjnpddehdmcaaGreatDoorRange
namespace Go.Proofs.YtgnjnpddehdmcaaGreatDoor
open Go.RowKit Go.Shelf
set_option linter.unusedSimpArgs false
set_option linter.unusedVariables false
set_option linter.unusedSectionVars false
set_option maxRecDepth 10000
open Go.Sort

def cmpF (x y : Rg) : Int := cmpS x.1 y.1
theorem ltOf_cmpF : ltOf cmpF = fun x y => lessB x.1 y.1 := by
 funext x y
 have h0 : ltOf cmpF x y = decide (cmpF x y < 0) := rfl
 rw [h0]
 unfold cmpF cmpS
 cases h : lessB x.1 y.1 with
 | true => simp
 | false => by_cases e : x.1 = y.1 <;> simp [e]
theorem swoF {α : Type} (v : α → Rg) : SWO (ltOf fun x y => cmpF (v x) (v y)) := by
 have e : (ltOf fun x y : α => cmpF (v x) (v y)) = fun x y => lessB (v x).1 (v y).1 := by
  funext x y
  exact congrFun (congrFun ltOf_cmpF (v x)) (v y)
 rw [e]
 refine ⟨fun x => less_irr _, fun x y z h1 h2 => less_trans h1 h2, fun x y z h1 h2 => ?_⟩
 rw [less_not, Bool.not_eq_false', Bool.or_eq_true] at h1 h2 ⊢
 rcases h1 with h1 | h1
 ·
  rcases h2 with h2 | h2
  ·
   exact .inl (less_trans h2 h1)
  ·
   have : (v y).1 = (v z).1 := by simpa using h2
   exact .inl (this ▸ h1)
 ·
  have e1 : (v x).1 = (v y).1 := by simpa using h1
  rw [e1]; exact h2
theorem take1F_grow (x y : Rg) (w : World) : Calls Tryz.prog 92 #[.agg #[.string x.1, .string x.2], .agg #[.string y.1, .string y.2]] w fun e w' => e = .returned (.int .i64 (cmpF x y)) ∧ ∃ q os', w' = grow (w.drewN q) os' := by
 have hc := fun W => cmpS_any x.1 y.1 W
 rw [show cmpS x.1 y.1 = cmpF x y from rfl] at hc
 generalize cmpF x y = z at *
 go_enter Tryz.func92, Tryz.ntmps92
 go_wp2_with (fail)
 refine (hc _).mono ?_
 rintro e w' ⟨rfl, rfl⟩
 go_wp2_with (fail)
 go_ret
 refine ⟨rfl, 0, #[.cells #[.string x.1, .string x.2] 32] ++ #[.cells #[.string y.1, .string y.2] 32], ?_⟩
 rw [alloc_eq_grow, alloc_eq_grow, grow_grow]
 rfl
def sortG (l : List Rg) : List Rg := l.mergeSort fun x y => !lessB y.1 x.1
theorem sortG_len (l : List Rg) : (sortG l).length = l.length := by rw [sortG, List.length_mergeSort]
theorem grown_growG (W : World) (os : Array Obj) : W.grownBy (grow W os) none := ⟨rfl, rfl, rfl, by simp [grow], fun k hk _ => by simp only [grow]; rw [Array.getElem?_append_left hk]⟩
theorem attach_flat (l : List Rg) : flat (fun x : {g // g ∈ l} => encG x.1) l.attach = flat encG l := by
 have : ∀ m : List {g // g ∈ l}, flat (fun x : {g // g ∈ l} => encG x.1) m = flat encG (m.map (·.1)) := by
  intro m
  induction m with
  | nil => rfl
  | cons a m ih => simp only [flat, List.flatMap_cons, List.map_cons] at ih ⊢; rw [ih]
 rw [this, List.attach_map_subtype_val]
theorem sub_flat {l : List Rg} (m : List {g // g ∈ l}) : flat (fun x : {g // g ∈ l} => encG x.1) m = flat encG (m.map (·.1)) := by
 induction m with
 | nil => rfl
 | cons a m ih => simp only [flat, List.flatMap_cons, List.map_cons] at ih ⊢; rw [ih]
theorem sortG_any {base : Nat} {W : World} {A : Option Addr} {n c : Nat} {l : List Rg} (hbase : base ≤ W.heap.size) (h : GOwn base W A n c l) (hlen0 : l.length = n) (hn : n ≤ 1000000) (hd : ∀ x ∈ l, ∀ y ∈ l, x.1 = y.1 → x = y) :
  Calls Tryz.prog 91 #[.slice A n c, .func (.func 92) #[] #[]] W fun e w' => e = .returned (.tuple #[]) ∧ GOwn base w' A n c (sortG l) ∧ W.grownBy w' (rowOf A) := by
 rcases Nat.eq_zero_or_pos n with h0 | h0
 ·
  subst h0
  have hl : l = [] := List.eq_nil_of_length_eq_zero hlen0
  subst hl
  refine (Tryz.slices_SortFunc_none A c _ W).mono ?_
  rintro e w' ⟨rfl, rfl⟩
  exact ⟨rfl, by rw [show sortG [] = [] from by simp [sortG]]; exact h, ⟨rfl, rfl, rfl, Nat.le_refl _, fun _ _ _ => rfl⟩⟩
 ·
  obtain ⟨g, rfl, hg, hlt⟩ : ∃ g, A = some ⟨g, 0, none⟩ ∧ base ≤ g ∧ g < W.heap.size := by
   rcases h.2 with ⟨_, e⟩ | ⟨g, cp, cur, e, hb, hh, _⟩
   ·
    omega
   ·
    simp only [Value.slice.injEq, true_and] at e
    exact ⟨g, e.1, hb, (Array.getElem?_eq_some_iff.1 hh).1⟩
  have hne : l ≠ [] := by rintro rfl; simp at hlen0; omega
  haveI : Inhabited {g // g ∈ l} := ⟨⟨l.head hne, List.head_mem hne⟩⟩
  obtain ⟨enc, henc⟩ : ∃ enc : {g // g ∈ l} → List Value, enc = fun x => encG x.1 := ⟨_, rfl⟩
  have hk : ∀ x, (enc x).length = 2 := fun x => by rw [henc]; rfl
  have hsz : l.attach.toArray.size = n := by simp [hlen0]
  have hown : W.ownsRow base 32 2 (.slice (some ⟨g, 0, none⟩) n c) n (flat enc l.attach) := by rw [henc, attach_flat]; exact h
  have hc := Tryz.slices_SortFunc_GT enc hk (fun x => by rw [henc]; exact encG_one x.1) (fun x y => cmpF x.1 y.1) (swoF fun x : {g // g ∈ l} => x.1) 92 #[] g 0 c l.attach.toArray W (enters_of Tryz.func92 (by kernel_rfl) rfl) (fun _ _ _ _ x y => by rw [henc]; exact take1F_grow x.1 y.1 _) (holdsK_of_own hk (by omega) hown (by simpa using hlen0)) hlt (by rw [hsz]; omega) (fun x y h1 h2 => by
   have e : ∀ a b : {g // g ∈ l}, (ltOf fun x y : {g // g ∈ l} => cmpF x.1 y.1) a b = lessB a.1.1 b.1.1 := fun a b => congrFun (congrFun ltOf_cmpF a.1) b.1
   rw [e] at h1 h2
   by_cases q : x.1.1 = y.1.1
   ·
    exact Subtype.ext (hd x.1 x.2 y.1 y.2 q)
   ·
    have := less_not (a := x.1.1) (b := y.1.1)
    rw [h1, h2, decide_eq_false q] at this
    cases this)
  rw [hsz] at hc
  refine hc.mono ?_
  rintro e w' ⟨rfl, q, os, rfl⟩
  obtain ⟨m, hm⟩ : ∃ m, m = (l.attach.toArray.toList.mergeSort fun x y => !(ltOf fun x y : {g // g ∈ l} => cmpF x.1 y.1) y x) := ⟨_, rfl⟩
  rw [← hm]
  have hmap : m.map (·.1) = sortG l := by
   rw [hm, List.toList_toArray]
   have := List.map_mergeSort (r := fun x y : {g // g ∈ l} => !(ltOf fun x y : {g // g ∈ l} => cmpF x.1 y.1) y x) (s := fun x y : Rg => !lessB y.1 x.1) (f := fun x : {g // g ∈ l} => x.1) (l := l.attach) (fun a _ b _ => by
    show (!(ltOf fun x y : {g // g ∈ l} => cmpF x.1 y.1) b a) = !lessB b.1.1 a.1.1
    congr 1
    exact congrFun (congrFun ltOf_cmpF b.1) a.1)
   rw [this, List.attach_map_subtype_val]; rfl
  have hlen : m.length = n := by
   have := congrArg List.length hmap
   rw [List.length_map, sortG_len, hlen0] at this; exact this
  have hg1 : W.grownBy (putRowK enc 2 (Sort.ahead W q) g 0 m.toArray) (some g) := grownBy_putRowK _
  have hP : (putRowK enc 2 (Sort.ahead W q) g 0 m.toArray).ownsRow base 32 2 (.slice (some ⟨g, 0, none⟩) n c) n (flat enc m) := own_putRowK hk (by omega) hown hlen
  rw [henc, sub_flat, hmap, ← henc] at hP
  have hg2 := grown_growG (putRowK enc 2 (Sort.ahead W q) g 0 m.toArray) os
  exact ⟨rfl, GOwn.keep hP (below_of_grown hg2 (Nat.le_refl _) (fun _ e => by cases e)), hg1.trans (grown_any hg2)⟩
end Go.Proofs.YtgnjnpddehdmcaaGreatDoor

namespace Go.Proofs.YtgnjnpddehdmcaaGreatDoor
open Go.RowKit Go.Shelf
set_option linter.unusedSimpArgs false
set_option linter.unusedVariables false
set_option linter.unusedSectionVars false
set_option maxRecDepth 10000
def stepG (acc : List Rg) (x : Rg) : List Rg := match acc.getLast? with
 | some y => if y.2 = x.1 then acc.dropLast ++ [(y.1, x.2)] else acc ++ [x]
 | none => [x]
def mergeG (l : List Rg) : List Rg := l.foldl stepG []
def takeG (own : List Rg) (r : Rg) : List Rg := mergeG (sortG (own ++ [r]))
theorem stepG_none (x : Rg) : stepG [] x = [x] := rfl
theorem stepG_snoc (acc : List Rg) (y x : Rg) : stepG (acc ++ [y]) x = if y.2 = x.1 then acc ++ [(y.1, x.2)] else acc ++ [y] ++ [x] := by
 unfold stepG
 rw [List.getLast?_concat, List.dropLast_concat]
theorem stepG_len (acc : List Rg) (x : Rg) : (stepG acc x).length ≤ acc.length + 1 := by
 rcases List.eq_nil_or_concat acc with rfl | ⟨a, y, rfl⟩
 ·
  simp [stepG_none]
 ·
  rw [List.concat_eq_append, stepG_snoc]; split <;> simp
theorem mergeG_len : ∀ (l acc : List Rg), (l.foldl stepG acc).length ≤ acc.length + l.length
 | [], acc => by simp
 | x :: l, acc => by
  rw [List.foldl_cons, List.length_cons]
  have := mergeG_len l (stepG acc x)
  have := stepG_len acc x
  omega
theorem less_no (a : ByteArray) : lessB a noText = false := by
 rw [Bool.eq_false_iff, Ne, less_iff]
 rw [show noText.toList = [] from by rw [ByteArray.toList_eq]; rfl]
 exact List.not_lt_nil _
theorem no_less {a : ByteArray} (h : ¬ a = noText) : lessB noText a = true := by
 rw [less_not, less_no, Bool.false_or, Bool.not_eq_true', decide_eq_false_iff_not]
 exact fun e => h e.symm
theorem okG_join {a b c : ByteArray} (h1 : okG (a, b) = true) (h2 : okG (b, c) = true) (hl : lessB b a = false) : okG (a, c) = true := by
 unfold okG at *
 simp only [Bool.and_eq_true, Bool.or_eq_true, decide_eq_true_eq] at *
 refine ⟨⟨h1.1.1, h2.1.2⟩, ?_⟩
 rcases h2.2 with h | h
 ·
  exact .inl h
 ·
  by_cases hb : b = noText
  ·
   subst hb
   have : a = noText := by
    by_cases q : a = noText
    ·
     exact q
    ·
     rw [no_less q] at hl; cases hl
   rw [this]; exact .inr h
  ·
   rcases h1.2 with q | q
   ·
    exact absurd q hb
   ·
    exact .inr (less_trans q h)
theorem stepG_ok {acc : List Rg} {x : Rg} (ha : ∀ g ∈ acc, okG g = true) (hx : okG x = true) (hl : ∀ g ∈ acc, lessB x.1 g.1 = false) : (∀ g ∈ stepG acc x, okG g = true) ∧ ∀ g ∈ stepG acc x, lessB x.1 g.1 = false := by
 rcases List.eq_nil_or_concat acc with rfl | ⟨a, y, rfl⟩
 ·
  rw [stepG_none]
  refine ⟨fun g hg => ?_, fun g hg => ?_⟩ <;> (simp at hg; subst hg)
  ·
   exact hx
  ·
   exact less_irr _
 ·
  rw [List.concat_eq_append] at *
  have hy := hl y (by simp)
  rw [stepG_snoc]
  split
  ·
   rename_i e
   refine ⟨fun g hg => ?_, fun g hg => ?_⟩
   ·
    rcases List.mem_append.1 hg with q | q
    ·
     exact ha g (List.mem_append_left _ q)
    ·
     simp at q; subst q
     refine okG_join (b := y.2) (ha y (by simp)) (by rw [e]; exact hx) (by rw [e]; exact hy)
   ·
    rcases List.mem_append.1 hg with q | q
    ·
     exact hl g (List.mem_append_left _ q)
    ·
     simp at q; subst q; exact hy
  ·
   refine ⟨fun g hg => ?_, fun g hg => ?_⟩
   ·
    rcases List.mem_append.1 hg with q | q
    ·
     exact ha g q
    ·
     simp at q; subst q; exact hx
   ·
    rcases List.mem_append.1 hg with q | q
    ·
     exact hl g q
    ·
     simp at q; subst q; exact less_irr _
theorem foldG_ok : ∀ (l acc : List Rg), (∀ g ∈ acc, okG g = true) → (∀ g ∈ l, okG g = true) → (l.Pairwise fun x y => lessB y.1 x.1 = false) → (∀ g ∈ acc, ∀ x ∈ l, lessB x.1 g.1 = false) → ∀ g ∈ l.foldl stepG acc, okG g = true
 | [], acc, ha, _, _, _ => ha
 | x :: l, acc, ha, hl, hp, hb => by
  have hp' := List.pairwise_cons.1 hp
  obtain ⟨s1, s2⟩ := stepG_ok ha (hl x (by simp)) (fun g hg => hb g hg x (by simp))
  rw [List.foldl_cons]
  refine foldG_ok l _ s1 (fun g hg => hl g (List.mem_cons_of_mem _ hg)) hp'.2 fun g hg z hz => ?_
  have h1 := s2 g hg
  have h2 := hp'.1 z hz
  rw [less_not, Bool.not_eq_false', Bool.or_eq_true] at h1 h2
  rw [less_not, Bool.not_eq_false', Bool.or_eq_true]
  rcases h1 with h1 | h1
  ·
   rcases h2 with h2 | h2
   ·
    exact .inl (less_trans h1 h2)
   ·
    have : x.1 = z.1 := by simpa using Eq.symm (by simpa using h2)
    exact .inl (this ▸ h1)
  ·
   have e1 : x.1 = g.1 := by simpa using h1
   rw [← e1]; exact h2
theorem sortG_pw (l : List Rg) : (sortG l).Pairwise fun x y => lessB y.1 x.1 = false := by
 have h := List.pairwise_mergeSort (le := fun x y : Rg => !lessB y.1 x.1) (fun a b c h1 h2 => by
  simp only [Bool.not_eq_true'] at *
  rw [less_not, Bool.not_eq_false', Bool.or_eq_true] at h1 h2 ⊢
  rcases h1 with h1 | h1
  ·
   rcases h2 with h2 | h2
   ·
    exact .inl (less_trans h1 h2)
   ·
    have : c.1 = b.1 := by simpa using h2
    exact .inl (this ▸ h1)
  ·
   have e1 : b.1 = a.1 := by simpa using h1
   rw [← e1]; exact h2) (fun a b => by
  rw [Bool.or_eq_true, Bool.not_eq_true', Bool.not_eq_true']
  cases h : lessB b.1 a.1 with
  | false => exact .inl rfl
  | true =>
   refine .inr ?_
   rw [less_not, h]; rfl) l
 exact h.imp fun {a b} q => by simpa using q
theorem takeG_ok {own : List Rg} {r : Rg} (ho : ∀ g ∈ own, okG g = true) (hr : okG r = true) : ∀ g ∈ takeG own r, okG g = true := by
 unfold takeG mergeG
 refine foldG_ok _ [] (by simp) (fun g hg => ?_) (sortG_pw _) (by simp)
 have : g ∈ own ++ [r] := by
  unfold sortG at hg
  exact List.mem_mergeSort.1 hg
 rcases List.mem_append.1 this with q | q
 ·
  exact ho g q
 ·
  simp at q; rw [q]; exact hr
theorem takeG_len (own : List Rg) (r : Rg) : (takeG own r).length ≤ own.length + 1 := by
 unfold takeG mergeG
 have := mergeG_len (sortG (own ++ [r])) []
 rw [sortG_len] at this
 simpa using this
section
variable {base : Nat} {p p' : Pl} {x x' : Sh} {w w' : World}
theorem ShW.setS (h : ShW base p x w) {A' : Option Addr} {c' : Nat} {o' : List Rg} {ap : Int} (hb : w'.heap[p.S]? = some (.cells (shV { p with A := A', c := c' } { x with own := o', app := ap }) 88 (0, 0))) (hg : GOwn base w' A' o'.length c' o') (hc : Chg (fun k => k = p.S) w w') (hn : ∀ k, rowOf A' = some k → rowOf p.A = some k ∨ w.heap.size ≤ k) (hok : ∀ g ∈ o', okG g = true) :
  ShTo base p { p with A := A', c := c' } { x with own := o', app := ap } w w' := by
 have hk : ∀ k, k < w.heap.size → k ≠ p.S → w'.heap[k]? = w.heap[k]? := fun k hl q => hc.block k hl q
 have hty : ∀ (k : Nat) (cs : Array Value) (T : TypeId) (f : Nat × Nat), w.heap[k]? = some (.cells cs T f) → T ≠ 88 → w'.heap[k]? = w.heap[k]? := fun k cs T f hc1 h1 => hk k (blkX hc1) (ne_cells hc1 h.blk h1)
 have hmp : ∀ {kt : TypeId} {b n : Nat} {f : Value → Option Value}, MapOf Tryz.prog kt w b n f → w'.heap[b]? = w.heap[b]? := fun hb => hk _ hb.lt fun q => MapOf.ncell hb (q ▸ h.blk)
 refine ⟨⟨h.ge, h.gg, h.gt, hb, hg, h.st.keep (hty _ _ _ _ h.st.blk (by decide)) (hmp h.st.map), h.mem.keep hc.size fun k hl q => ?_, MapOf.keep h.giv (hmp h.giv), MapOf.keep h.tak (hmp h.tak), hok, h.ord, h.okm, h.ogiv, h.otak, h.nMG, h.nMT, h.nGT⟩, ⟨hc.os, hc.tape, hc.output, hc.size, fun k hl q => hc.block k hl fun e => q (.inl e)⟩, fun k hk => ?_, rfl⟩
 ·
  rcases q with rfl | q
  ·
   exact hty _ _ _ _ h.mem.blk (by decide)
  ·
   obtain ⟨cs, hc1⟩ := row_cells h.mem.own q
   exact hty _ _ _ _ hc1 (by decide)
 ·
  rcases hk with q | q | q | q | q | q | q | q
  ·
   exact .inl (.inl q)
  ·
   exact .inl (.inr (.inl q))
  ·
   exact .inl (.inr (.inr (.inl q)))
  ·
   exact .inl (.inr (.inr (.inr (.inl q))))
  ·
   exact .inl (.inr (.inr (.inr (.inr (.inl q)))))
  ·
   exact .inl (.inr (.inr (.inr (.inr (.inr (.inl q))))))
  ·
   exact (hn k q).imp (fun q => .inr (.inr (.inr (.inr (.inr (.inr (.inl q))))))) id
  ·
   exact .inl (.inr (.inr (.inr (.inr (.inr (.inr (.inr q)))))))
theorem ShW.setApp (h : ShW base p x w) (a : Int) : ShTo base p p { x with app := a } w (w.setCell ⟨p.S, 1, none⟩ (.int .i64 a)) :=
 h.setS (A' := p.A) (c' := p.c) (o' := x.own) (ap := a) (hpSet (i := 1) (v := .int .i64 a) h.blk) (by
  rcases h.own.2 with e | ⟨g, cp, cur, e1, e2, hh, r⟩
  ·
   exact ⟨h.own.1, .inl e⟩
  ·
   exact ⟨h.own.1, .inr ⟨g, cp, cur, e1, e2, (hpFar (ne_cells hh h.blk (by decide))).trans hh, r⟩⟩) ⟨rfl, rfl, rfl, by simp, fun k hk hn => hpFar (by simp only; exact hn)⟩ (fun k q => .inl q) h.ok
theorem ShW.other {b : Nat} (h : ShW base p x w) (hc : Chg (fun k => k = b) w w') (hm : ∀ (cs : Array Value) (T : TypeId) (f : Nat × Nat), w.heap[b]? ≠ some (.cells cs T f)) (k : Nat) (cs : Array Value) (T : TypeId) (f : Nat × Nat) (hk : w.heap[k]? = some (.cells cs T f)) : w'.heap[k]? = w.heap[k]? :=
 hc.block k (blkX hk) fun q => hm _ _ _ (q ▸ hk)
theorem ShW.setGiv (h : ShW base p x w) {l : List (Int × ByteArray)} (hm : MapI Tryz.prog 3 givE w' p.G l) (ho : AOrd ltZ l) (hc : Chg (fun k => k = p.G) w w') : ShTo base p p { x with giv := l } w w' := by
 have hx := h.other hc (fun _ _ _ => MapOf.ncell h.giv)
 refine ⟨⟨h.ge, h.gg, h.gt, (hx _ _ _ _ h.blk).trans h.blk, ?_, h.st.keep (hx _ _ _ _ h.st.blk) (hc.block _ h.st.mlt h.nMG), h.mem.keep hc.size fun k hl q => ?_, hm, MapOf.keep h.tak (hc.block _ h.tak.lt h.nGT.symm), h.ok, h.ord, h.okm, ho, h.otak, h.nMG, h.nMT, h.nGT⟩, ⟨hc.os, hc.tape, hc.output, hc.size, fun k hl q => hc.block k hl fun e => q (.inr (.inr (.inr (.inr (.inl e)))))⟩, fun k hk => .inl hk, rfl⟩
 ·
  rcases h.own.2 with e | ⟨g, cp, cur, e1, e2, hh, r⟩
  ·
   exact ⟨h.own.1, .inl e⟩
  ·
   exact ⟨h.own.1, .inr ⟨g, cp, cur, e1, e2, (hx _ _ _ _ hh).trans hh, r⟩⟩
 ·
  rcases q with rfl | q
  ·
   exact hx _ _ _ _ h.mem.blk
  ·
   obtain ⟨cs, hc1⟩ := row_cells h.mem.own q
   exact hx _ _ _ _ hc1
end
end Go.Proofs.YtgnjnpddehdmcaaGreatDoor

namespace Go.Proofs.YtgnjnpddehdmcaaGreatDoor
open Go.RowKit Go.Shelf
set_option linter.unusedSimpArgs false
set_option linter.unusedVariables false
set_option linter.unusedSectionVars false
set_option maxRecDepth 10000
theorem GOwn.mono {w : World} {base base' : Nat} {A : Option Addr} {n c : Nat} {l : List Rg} (h : GOwn base w A n c l) (hb : base' ≤ base) : GOwn base' w A n c l :=
 ⟨h.1, h.2.imp id fun ⟨g, cap, cur, h1, h2, h3⟩ => ⟨g, cap, cur, h1, Nat.le_trans hb h2, h3⟩⟩
theorem joinArms3 {α β γ : Type} {F G : α → β → γ → Prop} {X : Prop} (main : (∀ V a b, F V a b → G V a b) → X) (pf : ∀ V a b, F V a b → G V a b) : X := main pf
theorem joinArms6 {α β γ δ ε ζ : Type} {F G : α → β → γ → δ → ε → ζ → Prop} {X : Prop} (main : (∀ V a b c d e, F V a b c d e → G V a b c d e) → X) (pf : ∀ V a b c d e, F V a b c d e → G V a b c d e) : X := main pf
theorem GOwn.chg {S : Nat → Prop} {w w' : World} {base : Nat} {A : Option Addr} {n c : Nat} {l : List Rg} (h : GOwn base w A n c l) (hc : Chg S w w') (hr : ∀ k, rowOf A = some k → ¬ S k) : GOwn base w' A n c l := by
 refine ⟨h.1, ?_⟩
 rcases h.2 with hn | ⟨k, cap, cur, hv, hb, hh, rest⟩
 ·
  exact .inl hn
 ·
  refine .inr ⟨k, cap, cur, hv, hb, ?_, rest⟩
  injection hv with hA
  subst hA
  exact (hc.block k (blkX hh) (hr k rfl)).trans hh
structure TkI (w2 : World) (p : Pl) (x : Sh) (acc : List Rg) (A : Option Addr) (c : Nat) (w : World) : Prop where
 blk : w.heap[p.S]? = some (.cells (shV { p with A := A, c := c } { x with own := acc }) 88 (0, 0))
 row : GOwn w2.heap.size w A acc.length c acc
 chg : Chg (fun k => k = p.S) w2 w
 lt : p.S < w2.heap.size
section
variable {w2 w w' : World} {p : Pl} {x : Sh} {acc a : List Rg} {A : Option Addr} {c g : Nat}
theorem TkI.below (h : TkI w2 p x acc A c w) (hb : Below w.heap.size w w') : TkI w2 p x acc A c w' :=
 ⟨(hb.block _ (blkX h.blk)).trans h.blk, h.row.keep hb, h.chg.trans (Chg.of_below hb (fun k => k = p.S)) (fun _ _ q => q), h.lt⟩
theorem TkI.gs (h : TkI w2 p x acc A c w) : GS w A acc.length acc := h.row.gs rfl
theorem TkI.join {y : Rg} (h : TkI w2 p x (a ++ [y]) (some ⟨g, 0, none⟩) c w) (b : ByteArray) : TkI w2 p x (a ++ [(y.1, b)]) (some ⟨g, 0, none⟩) c (w.setCell ⟨g, a.length * 2 + 1, none⟩ (.string b)) := by
 have hg := own_row h.row g rfl
 have hl : (a ++ [(y.1, b)]).length = (a ++ [y]).length := by simp
 have hS : p.S ≠ g := by have := h.lt; omega
 have hst := World.ownsRow.stored h.row (a.length * 2 + 1) (.string b)
 refine ⟨?_, ?_, ⟨?_, ?_, ?_, ?_, fun k hk hn => ?_⟩, h.lt⟩
 ·
  rw [show shV { p with A := some ⟨g, 0, none⟩, c := c } { x with own := a ++ [(y.1, b)] } = shV { p with A := some ⟨g, 0, none⟩, c := c } { x with own := a ++ [y] } from by unfold shV; simp only [hl]]
  exact (hpFar hS).trans h.blk
 ·
  unfold GOwn
  rw [hl]
  have h1 := hst.1
  rw [show (flat encG (a ++ [y])).set (a.length * 2 + 1) (.string b) = flat encG (a ++ [(y.1, b)]) from by
   rw [flat_app, flat_app]
   have hla := flat_length encG_len a
   rw [List.set_append_right _ _ (by omega)]
   rw [hla]
   rw [show a.length * 2 + 1 - a.length * 2 = 1 from by omega]
   simp [flat, encG]] at h1
  exact h1
 ·
  exact h.chg.os
 ·
  exact h.chg.tape
 ·
  exact h.chg.output
 ·
  rw [World.size_setCell]; exact h.chg.size
 ·
  exact (hpFar (by simp only; omega)).trans (h.chg.block k hk hn)
theorem TkI.app (h : TkI w2 p x acc A c w) {y : Rg} {l : Nat} (hl : w.heap[l]? = some (.cells #[.string y.1, .string y.2] 32 (0, 0))) (hn : acc.length ≤ 100000) :
  ∃ A' c' V, (appSem #[42, 42] 42 #[.slice A acc.length c, .slice (some ⟨l, 0, none⟩) 1 1]).run Tryz.prog w = .ok (.slice A' (acc.length + 1) c') V ∧ V.heap[p.S]? = w.heap[p.S]? ∧ TkI w2 p x (acc ++ [y]) A' c' (V.setCell ⟨p.S, 2, none⟩ (.slice A' (acc.length + 1) c')) := by
 obtain ⟨A', c', V, hrun, ho, hgr, hat⟩ := GOwn.app h.row h.chg.size hl hn
 have hne : ∀ k, rowOf A = some k → k ≠ p.S := fun k q e => by have := (own_row h.row k q).1; have := h.lt; omega
 have hSk := hgr.block p.S (blkX h.blk) fun e => hne _ e.symm rfl
 have hSV := hSk.trans h.blk
 have hA' : ∀ k, rowOf A' = some k → w2.heap.size ≤ k := fun k q => (own_row ho k q).1
 refine ⟨A', c', V, hrun, hSk, ⟨?_, ?_, ⟨?_, ?_, ?_, ?_, fun k hk hn' => ?_⟩, h.lt⟩⟩
 ·
  rw [show shV { p with A := A', c := c' } { x with own := acc ++ [y] } = (shV { p with A := A, c := c } { x with own := acc }).setIfInBounds 2 (.slice A' (acc.length + 1) c') from by unfold shV; simp]
  exact hpSet (i := 2) (v := .slice A' (acc.length + 1) c') hSV
 ·
  rw [show (acc ++ [y]).length = acc.length + 1 from by simp]
  rcases ho.2 with e | ⟨g, cp, cur, e1, e2, hh, r⟩
  ·
   exact ⟨ho.1, .inl e⟩
  ·
   refine ⟨ho.1, .inr ⟨g, cp, cur, e1, e2, (hpFar ?_).trans hh, r⟩⟩
   have := h.lt
   show g ≠ p.S
   omega
 ·
  exact hgr.os.trans h.chg.os
 ·
  exact hgr.tape.trans h.chg.tape
 ·
  exact hgr.output.trans h.chg.output
 ·
  rw [World.size_setCell]; exact Nat.le_trans h.chg.size hgr.size
 ·
  exact (hpFar (by simp only; exact hn')).trans ((hgr.block k (Nat.lt_of_lt_of_le hk h.chg.size) (fun e => by have := (own_row h.row k e.symm).1; omega)).trans (h.chg.block k hk hn'))
end
end Go.Proofs.YtgnjnpddehdmcaaGreatDoor
