/- A loop over an iterator that counts in a variable of its own (a captured box): the law of such a loop, where its body never leaves early. No program in sight. -/
import Derived.Test.YtmmiknlpndjdlaaGreatDoorClG
import Derived.Test.YtmmiknlpndjdlaaGreatDoorRangeM
import Derived.Test.YtmmiknlpndjdlaaGreatDoorShelfM
import Derived.Carry
import Derived.Test.YtmmiknlpndjdlaaGreatDoorHas
import Derived.RangeFuncNested
import Derived.RangeFuncBound
import Derived.RangeFuncCalls
import Derived.RangeFuncLeaves
import Derived.RangeFuncBox
namespace Go.Proofs.YtmmiknlpndjdlaaGreatDoor
open Go.RowKit Go.Shelf
set_option linter.unusedSimpArgs false
set_option linter.unusedVariables false
set_option linter.unusedSectionVars false
set_option maxRecDepth 10000
open Go.Sort

def cmpF (x y : Rg) : Int := cmpS x.1 y.1
theorem ltOf_cmpF : ltOf cmpF = fun x y => lessB x.1 y.1 := by
 funext x y
 have h0 : ltOf cmpF x y = decide (cmpF x y < 0) := rfl
 rw [h0]
 unfold cmpF cmpS
 cases h : lessB x.1 y.1 with
 | true => simp
 | false => by_cases e : x.1 = y.1 <;> simp [e]
theorem swoF {α : Type} (v : α → Rg) : SWO (ltOf fun x y => cmpF (v x) (v y)) := by
 have e : (ltOf fun x y : α => cmpF (v x) (v y)) = fun x y => lessB (v x).1 (v y).1 := by
  funext x y
  exact congrFun (congrFun ltOf_cmpF (v x)) (v y)
 rw [e]
 refine ⟨fun x => less_irr _, fun x y z h1 h2 => less_trans h1 h2, fun x y z h1 h2 => ?_⟩
 rw [less_not, Bool.not_eq_false', Bool.or_eq_true] at h1 h2 ⊢
 rcases h1 with h1 | h1
 ·
  rcases h2 with h2 | h2
  ·
   exact .inl (less_trans h2 h1)
  ·
   have : (v y).1 = (v z).1 := by simpa using h2
   exact .inl (this ▸ h1)
 ·
  have e1 : (v x).1 = (v y).1 := by simpa using h1
  rw [e1]; exact h2
theorem take1F_grow (x y : Rg) (w : World) : Calls Tryz.prog 79 #[.agg #[.string x.1, .string x.2], .agg #[.string y.1, .string y.2]] w fun e w' => e = .returned (.int .i64 (cmpF x y)) ∧ ∃ q os', w' = grow (w.drewN q) os' := by
 have hc := fun W => cmpS_any x.1 y.1 W
 rw [show cmpS x.1 y.1 = cmpF x y from rfl] at hc
 generalize cmpF x y = z at *
 go_enter Tryz.func79, Tryz.ntmps79
 go_wp2_with (fail)
 refine (hc _).mono ?_
 rintro e w' ⟨rfl, rfl⟩
 go_wp2_with (fail)
 go_ret
 refine ⟨rfl, 0, #[.cells #[.string x.1, .string x.2] 31] ++ #[.cells #[.string y.1, .string y.2] 31], ?_⟩
 rw [alloc_eq_grow, alloc_eq_grow, grow_grow]
 rfl
def sortG (l : List Rg) : List Rg := l.mergeSort fun x y => !lessB y.1 x.1
theorem sortG_len (l : List Rg) : (sortG l).length = l.length := by rw [sortG, List.length_mergeSort]
theorem grown_growG (W : World) (os : Array Obj) : W.grownBy (grow W os) none := ⟨rfl, rfl, rfl, by simp [grow], fun k hk _ => by simp only [grow]; rw [Array.getElem?_append_left hk]⟩
theorem attach_flat (l : List Rg) : flat (fun x : {g // g ∈ l} => encG x.1) l.attach = flat encG l := by
 have : ∀ m : List {g // g ∈ l}, flat (fun x : {g // g ∈ l} => encG x.1) m = flat encG (m.map (·.1)) := by
  intro m
  induction m with
  | nil => rfl
  | cons a m ih => simp only [flat, List.flatMap_cons, List.map_cons] at ih ⊢; rw [ih]
 rw [this, List.attach_map_subtype_val]
theorem sub_flat {l : List Rg} (m : List {g // g ∈ l}) : flat (fun x : {g // g ∈ l} => encG x.1) m = flat encG (m.map (·.1)) := by
 induction m with
 | nil => rfl
 | cons a m ih => simp only [flat, List.flatMap_cons, List.map_cons] at ih ⊢; rw [ih]
theorem sortG_any {base : Nat} {W : World} {A : Option Addr} {n c : Nat} {l : List Rg} (hbase : base ≤ W.heap.size) (h : GOwn base W A n c l) (hlen0 : l.length = n) (hn : n ≤ 1000000) (hd : ∀ x ∈ l, ∀ y ∈ l, x.1 = y.1 → x = y) :
  Calls Tryz.prog 78 #[.slice A n c, .func (.func 79) #[] #[]] W fun e w' => e = .returned (.tuple #[]) ∧ GOwn base w' A n c (sortG l) ∧ W.grownBy w' (rowOf A) := by
 rcases Nat.eq_zero_or_pos n with h0 | h0
 ·
  subst h0
  have hl : l = [] := List.eq_nil_of_length_eq_zero hlen0
  subst hl
  refine (Tryz.slices_SortFunc_none A c _ W).mono ?_
  rintro e w' ⟨rfl, rfl⟩
  exact ⟨rfl, by rw [show sortG [] = [] from by simp [sortG]]; exact h, ⟨rfl, rfl, rfl, Nat.le_refl _, fun _ _ _ => rfl⟩⟩
 ·
  obtain ⟨g, rfl, hg, hlt⟩ : ∃ g, A = some ⟨g, 0, none⟩ ∧ base ≤ g ∧ g < W.heap.size := by
   rcases h.2 with ⟨_, e⟩ | ⟨g, cp, cur, e, hb, hh, _⟩
   ·
    omega
   ·
    simp only [Value.slice.injEq, true_and] at e
    exact ⟨g, e.1, hb, (Array.getElem?_eq_some_iff.1 hh).1⟩
  have hne : l ≠ [] := by rintro rfl; simp at hlen0; omega
  haveI : Inhabited {g // g ∈ l} := ⟨⟨l.head hne, List.head_mem hne⟩⟩
  obtain ⟨enc, henc⟩ : ∃ enc : {g // g ∈ l} → List Value, enc = fun x => encG x.1 := ⟨_, rfl⟩
  have hk : ∀ x, (enc x).length = 2 := fun x => by rw [henc]; rfl
  have hsz : l.attach.toArray.size = n := by simp [hlen0]
  have hown : W.ownsRow base 31 2 (.slice (some ⟨g, 0, none⟩) n c) n (flat enc l.attach) := by rw [henc, attach_flat]; exact h
  have hc := Tryz.slices_SortFunc_GT enc hk (fun x => by rw [henc]; exact encG_one x.1) (fun x y => cmpF x.1 y.1) (swoF fun x : {g // g ∈ l} => x.1) 79 #[] g 0 c l.attach.toArray W (enters_of Tryz.func79 (by kernel_rfl) rfl) (fun _ _ _ _ x y => by rw [henc]; exact take1F_grow x.1 y.1 _) (holdsK_of_own hk (by omega) hown (by simpa using hlen0)) hlt (by rw [hsz]; omega) (fun x y h1 h2 => by
   have e : ∀ a b : {g // g ∈ l}, (ltOf fun x y : {g // g ∈ l} => cmpF x.1 y.1) a b = lessB a.1.1 b.1.1 := fun a b => congrFun (congrFun ltOf_cmpF a.1) b.1
   rw [e] at h1 h2
   by_cases q : x.1.1 = y.1.1
   ·
    exact Subtype.ext (hd x.1 x.2 y.1 y.2 q)
   ·
    have := less_not (a := x.1.1) (b := y.1.1)
    rw [h1, h2, decide_eq_false q] at this
    cases this)
  rw [hsz] at hc
  refine hc.mono ?_
  rintro e w' ⟨rfl, q, os, rfl⟩
  obtain ⟨m, hm⟩ : ∃ m, m = (l.attach.toArray.toList.mergeSort fun x y => !(ltOf fun x y : {g // g ∈ l} => cmpF x.1 y.1) y x) := ⟨_, rfl⟩
  rw [← hm]
  have hmap : m.map (·.1) = sortG l := by
   rw [hm, List.toList_toArray]
   have := List.map_mergeSort (r := fun x y : {g // g ∈ l} => !(ltOf fun x y : {g // g ∈ l} => cmpF x.1 y.1) y x) (s := fun x y : Rg => !lessB y.1 x.1) (f := fun x : {g // g ∈ l} => x.1) (l := l.attach) (fun a _ b _ => by
    show (!(ltOf fun x y : {g // g ∈ l} => cmpF x.1 y.1) b a) = !lessB b.1.1 a.1.1
    congr 1
    exact congrFun (congrFun ltOf_cmpF b.1) a.1)
   rw [this, List.attach_map_subtype_val]; rfl
  have hlen : m.length = n := by
   have := congrArg List.length hmap
   rw [List.length_map, sortG_len, hlen0] at this; exact this
  have hg1 : W.grownBy (putRowK enc 2 (Sort.ahead W q) g 0 m.toArray) (some g) := grownBy_putRowK _
  have hP : (putRowK enc 2 (Sort.ahead W q) g 0 m.toArray).ownsRow base 31 2 (.slice (some ⟨g, 0, none⟩) n c) n (flat enc m) := own_putRowK hk (by omega) hown hlen
  rw [henc, sub_flat, hmap, ← henc] at hP
  have hg2 := grown_growG (putRowK enc 2 (Sort.ahead W q) g 0 m.toArray) os
  exact ⟨rfl, GOwn.keep hP (below_of_grown hg2 (Nat.le_refl _) (fun _ e => by cases e)), hg1.trans (grown_any hg2)⟩
end Go.Proofs.YtmmiknlpndjdlaaGreatDoor

namespace Go.Proofs.YtmmiknlpndjdlaaGreatDoor
open Go.RowKit Go.Shelf
set_option linter.unusedSimpArgs false
set_option linter.unusedVariables false
set_option linter.unusedSectionVars false
set_option maxRecDepth 10000
def stepG (acc : List Rg) (x : Rg) : List Rg := match acc.getLast? with
 | some y => if y.2 = x.1 then acc.dropLast ++ [(y.1, x.2)] else acc ++ [x]
 | none => [x]
def mergeG (l : List Rg) : List Rg := l.foldl stepG []
def takeG (own : List Rg) (r : Rg) : List Rg := mergeG (sortG (own ++ [r]))
theorem stepG_none (x : Rg) : stepG [] x = [x] := rfl
theorem stepG_snoc (acc : List Rg) (y x : Rg) : stepG (acc ++ [y]) x = if y.2 = x.1 then acc ++ [(y.1, x.2)] else acc ++ [y] ++ [x] := by
 unfold stepG
 rw [List.getLast?_concat, List.dropLast_concat]
theorem stepG_len (acc : List Rg) (x : Rg) : (stepG acc x).length ≤ acc.length + 1 := by
 rcases List.eq_nil_or_concat acc with rfl | ⟨a, y, rfl⟩
 ·
  simp [stepG_none]
 ·
  rw [List.concat_eq_append, stepG_snoc]; split <;> simp
theorem mergeG_len : ∀ (l acc : List Rg), (l.foldl stepG acc).length ≤ acc.length + l.length
 | [], acc => by simp
 | x :: l, acc => by
  rw [List.foldl_cons, List.length_cons]
  have := mergeG_len l (stepG acc x)
  have := stepG_len acc x
  omega
theorem less_no (a : ByteArray) : lessB a noText = false := by
 rw [Bool.eq_false_iff, Ne, less_iff]
 rw [show noText.toList = [] from by rw [ByteArray.toList_eq]; rfl]
 exact List.not_lt_nil _
theorem no_less {a : ByteArray} (h : ¬ a = noText) : lessB noText a = true := by
 rw [less_not, less_no, Bool.false_or, Bool.not_eq_true', decide_eq_false_iff_not]
 exact fun e => h e.symm
theorem okG_join {a b c : ByteArray} (h1 : okG (a, b) = true) (h2 : okG (b, c) = true) (hl : lessB b a = false) : okG (a, c) = true := by
 unfold okG at *
 simp only [Bool.and_eq_true, Bool.or_eq_true, decide_eq_true_eq] at *
 refine ⟨⟨h1.1.1, h2.1.2⟩, ?_⟩
 rcases h2.2 with h | h
 ·
  exact .inl h
 ·
  by_cases hb : b = noText
  ·
   subst hb
   have : a = noText := by
    by_cases q : a = noText
    ·
     exact q
    ·
     rw [no_less q] at hl; cases hl
   rw [this]; exact .inr h
  ·
   rcases h1.2 with q | q
   ·
    exact absurd q hb
   ·
    exact .inr (less_trans q h)
theorem stepG_ok {acc : List Rg} {x : Rg} (ha : ∀ g ∈ acc, okG g = true) (hx : okG x = true) (hl : ∀ g ∈ acc, lessB x.1 g.1 = false) : (∀ g ∈ stepG acc x, okG g = true) ∧ ∀ g ∈ stepG acc x, lessB x.1 g.1 = false := by
 rcases List.eq_nil_or_concat acc with rfl | ⟨a, y, rfl⟩
 ·
  rw [stepG_none]
  refine ⟨fun g hg => ?_, fun g hg => ?_⟩ <;> (simp at hg; subst hg)
  ·
   exact hx
  ·
   exact less_irr _
 ·
  rw [List.concat_eq_append] at *
  have hy := hl y (by simp)
  rw [stepG_snoc]
  split
  ·
   rename_i e
   refine ⟨fun g hg => ?_, fun g hg => ?_⟩
   ·
    rcases List.mem_append.1 hg with q | q
    ·
     exact ha g (List.mem_append_left _ q)
    ·
     simp at q; subst q
     refine okG_join (b := y.2) (ha y (by simp)) (by rw [e]; exact hx) (by rw [e]; exact hy)
   ·
    rcases List.mem_append.1 hg with q | q
    ·
     exact hl g (List.mem_append_left _ q)
    ·
     simp at q; subst q; exact hy
  ·
   refine ⟨fun g hg => ?_, fun g hg => ?_⟩
   ·
    rcases List.mem_append.1 hg with q | q
    ·
     exact ha g q
    ·
     simp at q; subst q; exact hx
   ·
    rcases List.mem_append.1 hg with q | q
    ·
     exact hl g q
    ·
     simp at q; subst q; exact less_irr _
theorem foldG_ok : ∀ (l acc : List Rg), (∀ g ∈ acc, okG g = true) → (∀ g ∈ l, okG g = true) → (l.Pairwise fun x y => lessB y.1 x.1 = false) → (∀ g ∈ acc, ∀ x ∈ l, lessB x.1 g.1 = false) → ∀ g ∈ l.foldl stepG acc, okG g = true
 | [], acc, ha, _, _, _ => ha
 | x :: l, acc, ha, hl, hp, hb => by
  have hp' := List.pairwise_cons.1 hp
  obtain ⟨s1, s2⟩ := stepG_ok ha (hl x (by simp)) (fun g hg => hb g hg x (by simp))
  rw [List.foldl_cons]
  refine foldG_ok l _ s1 (fun g hg => hl g (List.mem_cons_of_mem _ hg)) hp'.2 fun g hg z hz => ?_
  have h1 := s2 g hg
  have h2 := hp'.1 z hz
  rw [less_not, Bool.not_eq_false', Bool.or_eq_true] at h1 h2
  rw [less_not, Bool.not_eq_false', Bool.or_eq_true]
  rcases h1 with h1 | h1
  ·
   rcases h2 with h2 | h2
   ·
    exact .inl (less_trans h1 h2)
   ·
    have : x.1 = z.1 := by simpa using Eq.symm (by simpa using h2)
    exact .inl (this ▸ h1)
  ·
   have e1 : x.1 = g.1 := by simpa using h1
   rw [← e1]; exact h2
theorem sortG_pw (l : List Rg) : (sortG l).Pairwise fun x y => lessB y.1 x.1 = false := by
 have h := List.pairwise_mergeSort (le := fun x y : Rg => !lessB y.1 x.1) (fun a b c h1 h2 => by
  simp only [Bool.not_eq_true'] at *
  rw [less_not, Bool.not_eq_false', Bool.or_eq_true] at h1 h2 ⊢
  rcases h1 with h1 | h1
  ·
   rcases h2 with h2 | h2
   ·
    exact .inl (less_trans h1 h2)
   ·
    have : c.1 = b.1 := by simpa using h2
    exact .inl (this ▸ h1)
  ·
   have e1 : b.1 = a.1 := by simpa using h1
   rw [← e1]; exact h2) (fun a b => by
  rw [Bool.or_eq_true, Bool.not_eq_true', Bool.not_eq_true']
  cases h : lessB b.1 a.1 with
  | false => exact .inl rfl
  | true =>
   refine .inr ?_
   rw [less_not, h]; rfl) l
 exact h.imp fun {a b} q => by simpa using q
theorem takeG_ok {own : List Rg} {r : Rg} (ho : ∀ g ∈ own, okG g = true) (hr : okG r = true) : ∀ g ∈ takeG own r, okG g = true := by
 unfold takeG mergeG
 refine foldG_ok _ [] (by simp) (fun g hg => ?_) (sortG_pw _) (by simp)
 have : g ∈ own ++ [r] := by
  unfold sortG at hg
  exact List.mem_mergeSort.1 hg
 rcases List.mem_append.1 this with q | q
 ·
  exact ho g q
 ·
  simp at q; rw [q]; exact hr
theorem takeG_len (own : List Rg) (r : Rg) : (takeG own r).length ≤ own.length + 1 := by
 unfold takeG mergeG
 have := mergeG_len (sortG (own ++ [r])) []
 rw [sortG_len] at this
 simpa using this
theorem GOwn.mono {w : World} {base base' : Nat} {A : Option Addr} {n c : Nat} {l : List Rg} (h : GOwn base w A n c l) (hb : base' ≤ base) : GOwn base' w A n c l :=
 ⟨h.1, h.2.imp id fun ⟨g, cap, cur, h1, h2, h3⟩ => ⟨g, cap, cur, h1, Nat.le_trans hb h2, h3⟩⟩
theorem joinArms3 {α β γ : Type} {F G : α → β → γ → Prop} {X : Prop} (main : (∀ V a b, F V a b → G V a b) → X) (pf : ∀ V a b, F V a b → G V a b) : X := main pf
theorem joinArms6 {α β γ δ ε ζ : Type} {F G : α → β → γ → δ → ε → ζ → Prop} {X : Prop} (main : (∀ V a b c d e, F V a b c d e → G V a b c d e) → X) (pf : ∀ V a b c d e, F V a b c d e → G V a b c d e) : X := main pf
theorem GOwn.chg {S : Nat → Prop} {w w' : World} {base : Nat} {A : Option Addr} {n c : Nat} {l : List Rg} (h : GOwn base w A n c l) (hc : Chg S w w') (hr : ∀ k, rowOf A = some k → ¬ S k) : GOwn base w' A n c l := by
 refine ⟨h.1, ?_⟩
 rcases h.2 with hn | ⟨k, cap, cur, hv, hb, hh, rest⟩
 ·
  exact .inl hn
 ·
  refine .inr ⟨k, cap, cur, hv, hb, ?_, rest⟩
  injection hv with hA
  subst hA
  exact (hc.block k (blkX hh) (hr k rfl)).trans hh
structure TkI (w2 : World) (p : Pl) (x : Sh) (acc : List Rg) (A : Option Addr) (c : Nat) (w : World) : Prop where
 blk : w.heap[p.S]? = some (.cells (shV { p with A := A, c := c } { x with own := acc }) 73 (0, 0))
 row : GOwn w2.heap.size w A acc.length c acc
 chg : Chg (fun k => k = p.S) w2 w
 lt : p.S < w2.heap.size
section
variable {w2 w w' : World} {p : Pl} {x : Sh} {acc a : List Rg} {A : Option Addr} {c g : Nat}
theorem TkI.below (h : TkI w2 p x acc A c w) (hb : Below w.heap.size w w') : TkI w2 p x acc A c w' :=
 ⟨(hb.block _ (blkX h.blk)).trans h.blk, h.row.keep hb, h.chg.trans (Chg.of_below hb (fun k => k = p.S)) (fun _ _ q => q), h.lt⟩
theorem TkI.gs (h : TkI w2 p x acc A c w) : GS w A acc.length acc := h.row.gs rfl
theorem TkI.join {y : Rg} (h : TkI w2 p x (a ++ [y]) (some ⟨g, 0, none⟩) c w) (b : ByteArray) : TkI w2 p x (a ++ [(y.1, b)]) (some ⟨g, 0, none⟩) c (w.setCell ⟨g, a.length * 2 + 1, none⟩ (.string b)) := by
 have hg := own_row h.row g rfl
 have hl : (a ++ [(y.1, b)]).length = (a ++ [y]).length := by simp
 have hS : p.S ≠ g := by have := h.lt; omega
 have hst := World.ownsRow.stored h.row (a.length * 2 + 1) (.string b)
 refine ⟨?_, ?_, ⟨?_, ?_, ?_, ?_, fun k hk hn => ?_⟩, h.lt⟩
 ·
  rw [show shV { p with A := some ⟨g, 0, none⟩, c := c } { x with own := a ++ [(y.1, b)] } = shV { p with A := some ⟨g, 0, none⟩, c := c } { x with own := a ++ [y] } from by unfold shV; simp only [hl]]
  exact (hpFar hS).trans h.blk
 ·
  unfold GOwn
  rw [hl]
  have h1 := hst.1
  rw [show (flat encG (a ++ [y])).set (a.length * 2 + 1) (.string b) = flat encG (a ++ [(y.1, b)]) from by
   rw [flat_app, flat_app]
   have hla := flat_length encG_len a
   rw [List.set_append_right _ _ (by omega)]
   rw [hla]
   rw [show a.length * 2 + 1 - a.length * 2 = 1 from by omega]
   simp [flat, encG]] at h1
  exact h1
 ·
  exact h.chg.os
 ·
  exact h.chg.tape
 ·
  exact h.chg.output
 ·
  rw [World.size_setCell]; exact h.chg.size
 ·
  exact (hpFar (by simp only; omega)).trans (h.chg.block k hk hn)
theorem TkI.app (h : TkI w2 p x acc A c w) {y : Rg} {l : Nat} (hl : w.heap[l]? = some (.cells #[.string y.1, .string y.2] 31 (0, 0))) (hn : acc.length ≤ 100000) :
  ∃ A' c' V, (appSem #[44, 44] 44 #[.slice A acc.length c, .slice (some ⟨l, 0, none⟩) 1 1]).run Tryz.prog w = .ok (.slice A' (acc.length + 1) c') V ∧ V.heap[p.S]? = w.heap[p.S]? ∧ TkI w2 p x (acc ++ [y]) A' c' (V.setCell ⟨p.S, 2, none⟩ (.slice A' (acc.length + 1) c')) := by
 obtain ⟨A', c', V, hrun, ho, hgr, hat⟩ := GOwn.app h.row h.chg.size hl hn
 have hne : ∀ k, rowOf A = some k → k ≠ p.S := fun k q e => by have := (own_row h.row k q).1; have := h.lt; omega
 have hSk := hgr.block p.S (blkX h.blk) fun e => hne _ e.symm rfl
 have hSV := hSk.trans h.blk
 have hA' : ∀ k, rowOf A' = some k → w2.heap.size ≤ k := fun k q => (own_row ho k q).1
 refine ⟨A', c', V, hrun, hSk, ⟨?_, ?_, ⟨?_, ?_, ?_, ?_, fun k hk hn' => ?_⟩, h.lt⟩⟩
 ·
  rw [show shV { p with A := A', c := c' } { x with own := acc ++ [y] } = (shV { p with A := A, c := c } { x with own := acc }).setIfInBounds 2 (.slice A' (acc.length + 1) c') from by unfold shV; simp]
  exact hpSet (i := 2) (v := .slice A' (acc.length + 1) c') hSV
 ·
  rw [show (acc ++ [y]).length = acc.length + 1 from by simp]
  rcases ho.2 with e | ⟨g, cp, cur, e1, e2, hh, r⟩
  ·
   exact ⟨ho.1, .inl e⟩
  ·
   refine ⟨ho.1, .inr ⟨g, cp, cur, e1, e2, (hpFar ?_).trans hh, r⟩⟩
   have := h.lt
   show g ≠ p.S
   omega
 ·
  exact hgr.os.trans h.chg.os
 ·
  exact hgr.tape.trans h.chg.tape
 ·
  exact hgr.output.trans h.chg.output
 ·
  rw [World.size_setCell]; exact Nat.le_trans h.chg.size hgr.size
 ·
  exact (hpFar (by simp only; exact hn')).trans ((hgr.block k (Nat.lt_of_lt_of_le hk h.chg.size) (fun e => by have := (own_row h.row k e.symm).1; omega)).trans (h.chg.block k hk hn'))
end
end Go.Proofs.YtmmiknlpndjdlaaGreatDoor

namespace Go.Proofs.YtmmiknlpndjdlaaGreatDoor
open Go.RowKit Go.Shelf
set_option linter.unusedSimpArgs false
set_option linter.unusedVariables false
set_option linter.unusedSectionVars false
set_option maxRecDepth 10000
def encS1 (s : ByteArray) : List Value := [.string s]
abbrev KS (w : World) (A : Option Addr) (n : Nat) (l : List ByteArray) : Prop := SL encS1 1 w A n l
def encC (c : Cn) : List Value := [.int .i64 c.1, .int .i64 c.2.1, .int .i64 c.2.2.1, .int .i64 c.2.2.2.1, .int .i64 c.2.2.2.2]
abbrev CS (w : World) (A : Option Addr) (n : Nat) (l : List Cn) : Prop := SL encC 5 w A n l
def fitsB (r : Rg) (ks : List ByteArray) (cs : List Cn) : Bool := decide (ks.length = cs.length) && okG r && decide ks.Nodup && ks.all (hasG r) && cs.all ckC
structure FitI (r : Rg) (ks : List ByteArray) (cs : List Cn) (i : Nat) : Prop where
 le : i ≤ ks.length
 lc : i ≤ cs.length
 nd : (ks.take i).Nodup
 has : ∀ k ∈ ks.take i, hasG r k = true
 ck : ∀ c ∈ cs.take i, ckC c = true
theorem FitI.zero (r : Rg) (ks : List ByteArray) (cs : List Cn) : FitI r ks cs 0 := ⟨by omega, by omega, by simp, by simp, by simp⟩
theorem FitI.next {r : Rg} {ks : List ByteArray} {cs : List Cn} {i : Nat} (h : FitI r ks cs i) {k : ByteArray} {c : Cn} (hk : ks[i]? = some k) (hc : cs[i]? = some c) (hs : k ∉ ks.take i) (h1 : hasG r k = true) (h2 : ckC c = true) : FitI r ks cs (i + 1) := by
 have e1 : ks.take (i + 1) = ks.take i ++ [k] := by rw [List.take_add_one, hk]; rfl
 have e2 : cs.take (i + 1) = cs.take i ++ [c] := by rw [List.take_add_one, hc]; rfl
 refine ⟨(List.getElem?_eq_some_iff.1 hk).1, (List.getElem?_eq_some_iff.1 hc).1, ?_, ?_, ?_⟩
 ·
  rw [e1, List.nodup_append]
  exact ⟨h.nd, by simp, fun a ha b hb => by simp at hb; subst hb; rintro rfl; exact hs ha⟩
 ·
  intro x hx
  rw [e1] at hx
  rcases List.mem_append.1 hx with q | q
  ·
   exact h.has x q
  ·
   simp at q; rw [q]; exact h1
 ·
  intro x hx
  rw [e2] at hx
  rcases List.mem_append.1 hx with q | q
  ·
   exact h.ck x q
  ·
   simp at q; rw [q]; exact h2
theorem fits_seen {r : Rg} {ks : List ByteArray} {cs : List Cn} {i : Nat} {k : ByteArray} (hk : ks[i]? = some k) (hs : k ∈ ks.take i) : fitsB r ks cs = false := by
 have : ¬ ks.Nodup := fun hn => by
  have hi := (List.getElem?_eq_some_iff.1 hk)
  rw [← List.take_append_drop i ks, List.nodup_append] at hn
  refine hn.2.2 k hs k ?_ rfl
  rw [List.mem_iff_getElem?]
  exact ⟨0, by rw [List.getElem?_drop]; simpa using hk⟩
 unfold fitsB
 rw [decide_eq_false this]; simp
theorem fits_len {r : Rg} {ks : List ByteArray} {cs : List Cn} (h : ks.length ≠ cs.length) : fitsB r ks cs = false := by
 unfold fitsB
 rw [decide_eq_false h]; simp
theorem fits_has {r : Rg} {ks : List ByteArray} {cs : List Cn} {i : Nat} {k : ByteArray} (hk : ks[i]? = some k) (h : hasG r k = false) : fitsB r ks cs = false := by
 have : ks.all (hasG r) = false := by
  rw [List.all_eq_false]
  exact ⟨k, List.mem_of_getElem? hk, by simp [h]⟩
 unfold fitsB
 rw [this]; simp
theorem fits_ck {r : Rg} {ks : List ByteArray} {cs : List Cn} {i : Nat} {c : Cn} (hc : cs[i]? = some c) (h : ckC c = false) : fitsB r ks cs = false := by
 have : cs.all ckC = false := by
  rw [List.all_eq_false]
  exact ⟨c, List.mem_of_getElem? hc, by simp [h]⟩
 unfold fitsB
 rw [this]; simp
theorem fits_end {r : Rg} {ks : List ByteArray} {cs : List Cn} (h : FitI r ks cs ks.length) (hl : ks.length = cs.length) : fitsB r ks cs = okG r := by
 have a := h.nd
 have b := h.has
 have c := h.ck
 rw [List.take_length] at a b
 rw [hl, List.take_length] at c
 unfold fitsB
 rw [decide_eq_true hl, decide_eq_true a, List.all_eq_true.2 b, List.all_eq_true.2 c]; simp
def inL (ks : List ByteArray) (k : ByteArray) : Bool := ks.any fun x => decide (x = k)
theorem inL_iff {ks : List ByteArray} {k : ByteArray} : inL ks k = true ↔ k ∈ ks := by
 unfold inL
 rw [List.any_eq_true]
 constructor
 ·
  rintro ⟨x, hx, e⟩
  have : x = k := by simpa using e
  exact this ▸ hx
 ·
  intro h
  exact ⟨k, h, by simp⟩
theorem inL_not {ks : List ByteArray} {k : ByteArray} (h : inL ks k = false) : k ∉ ks := fun q => by rw [inL_iff.2 q] at h; cases h
theorem inL_cons (a k : ByteArray) (ks : List ByteArray) : inL (a :: ks) k = (decide (a = k) || inL ks k) := rfl
def seenL (ks : List ByteArray) : List (ByteArray × Unit) := ks.foldl (fun l k => putA lessB l k ()) []
theorem seenL_snoc (ks : List ByteArray) (k : ByteArray) : seenL (ks ++ [k]) = putA lessB (seenL ks) k () := by unfold seenL; rw [List.foldl_append]; rfl
theorem look_foldl : ∀ (ks : List ByteArray) (l : List (ByteArray × Unit)) (k : ByteArray), lookA (ks.foldl (fun l k => putA lessB l k ()) l) k = if inL ks k then some () else lookA l k
 | [], l, k => by simp [inL]
 | a :: ks, l, k => by
  rw [List.foldl_cons, look_foldl ks, look_putA, inL_cons]
  cases h : inL ks k with
  | true => simp
  | false =>
   by_cases e : k = a
   ·
    subst e; simp
   ·
    rw [decide_eq_false (fun q => e q.symm), if_neg e]; simp
theorem look_seen (ks : List ByteArray) (k : ByteArray) : (lookA (seenL ks) k).isSome = inL ks k := by
 unfold seenL
 rw [look_foldl]
 cases h : inL ks k <;> simp [lookA]
theorem len_seen (ks : List ByteArray) : (seenL ks).length ≤ ks.length := by
 have : ∀ (ks : List ByteArray) (l : List (ByteArray × Unit)), (ks.foldl (fun l k => putA lessB l k ()) l).length ≤ l.length + ks.length := by
  intro ks
  induction ks with
  | nil => intro l; simp
  | cons a ks ih =>
   intro l
   rw [List.foldl_cons, List.length_cons]
   have h1 := ih (putA lessB l a ())
   have h2 := len_putA (lt := lessB) l a ()
   split at h2 <;> omega
 have := this ks []
 unfold seenL; simpa using this
abbrev seenE : Unit → Value := fun _ => .bool true
theorem zeroBool (w : World) : (zeroValue 4).run Tryz.prog w = .ok (.bool false) w := by kernel_rfl
theorem seen_look {W : World} {b : Nat} {ks : List ByteArray} (h : MapS Tryz.prog 9 seenE W b (seenL ks)) (k : ByteArray) (hk : k.size ≤ maxLen) :
  (Instr.lookup 152 (.map (some b)) (.string k) false).run Tryz.prog W = .ok (.bool (inL ks k)) W := by
 have hkey := Go.WideMaps.keyOf_string_mk undS hk
 obtain ⟨D, h1, h2, h3⟩ := h
 obtain ⟨v, ps, hr, hv⟩ := h1.lookup (Maps.string_keyed undS) Tryz.underlying152 (zeroBool W) (zd := .held (.bool false)) (zp := []) rfl hkey
 obtain ⟨a, c⟩ := h3 _ _ hkey
 rw [hr]
 have hs := look_seen ks k
 rw [sF_some, Option.isSome_map, hs] at a
 cases hm : inL ks k with
 | true =>
  rw [hm] at hs
  obtain ⟨u, hu⟩ := Option.isSome_iff_exists.1 hs
  rw [c _ (by rw [sF_some, hu]; rfl)] at hv
  simp only [heldE, Option.some.injEq, Prod.mk.injEq, DataW.held.injEq] at hv
  rw [hv.1]
 | false =>
  rw [hm] at a
  rw [Maps.atKey_of_not_has a] at hv
  simp only [heldE, Option.some.injEq, Prod.mk.injEq, DataW.held.injEq] at hv
  rw [hv.1]
end Go.Proofs.YtmmiknlpndjdlaaGreatDoor

namespace Go.Proofs.YtmmiknlpndjdlaaGreatDoor
open Go.RowKit
variable {F : Fence} {n : Nat} {P : Program}

def SeqBox {α : Type} (F : Fence) (n : Nat) (P : Program) (g : Nat) (lb : Array Value) (encs : α → Array Value) (bn : Nat) (xs : List α) (w : World) : Prop :=
 ∀ (l : Nat) (J : List α → World → Prop) (W : World), W.heap[bn]? = w.heap[bn]? → (∀ s A v, J s A → J s (A.setCell ⟨bn, 0, none⟩ v)) →
  (∀ pre x rest W1, xs = pre ++ x :: rest → J pre W1 → YieldAt F (n - 1) P l (encs x) W1 fun e W' => e = .returned (.bool true) ∧ J (pre ++ [x]) W' ∧ W'.heap[bn]? = W1.heap[bn]?) →
  J [] W → CallsIn F n P g (#[.func (.yield l) #[] #[]] ++ lb) W fun e W' => (∃ v, e = .returned v) ∧ J xs W'

def boxPost {α : Type} (B bn : Nat) (I : List α → World → Prop) (xs : List α) (W : World) : Exit → Act → World → Prop
 | .normal, _, W' => KeepsFrom B W W' ∧ W'.heap[bn]? = W.heap[bn]? ∧ I xs W'
 | _, _, _ => False

theorem wpIn_rangeBox {α : Type} {g : Operand} {ps : Array Tmp} {assign body : Code} {Q : Exit → Act → World → Prop} {a : Act} {w : World}
    (hro : F.round = none) (h1 : 1 ≤ n) {gf : Nat} {lb : Array Value} (hg : a.eval g = .func (.func gf) #[] lb) (hFg : F.fn gf) (eg : ∀ args w, (callFunc gf args).run P w = .ok (.enter gf args) w)
    {encs : α → Array Value} {bn : Nat} {xs : List α} (hseq : SeqBox F (n - 1) P gf lb encs bn xs w) (hbn : bn < w.heap.size) (hps : ∀ x, (encs x).size = ps.size)
    (I : List α → World → Prop) (hI : OwnFrom w.heap.size I) (hIb : ∀ s A v, I s A → I s (A.setCell ⟨bn, 0, none⟩ v)) (h0 : I [] w) (a₁ : α → Act)
    (hassign : ∀ (l : Nat) (x : α) (W : World) (K : Act → World → Prop), K (a₁ x) W →
      assign.wpIn (F.inRound l) (n - 1 - 1) P (Exit.then K (fun _ _ _ => False)) { tmps := (ps.zip (encs x)).foldl (fun t (p, v) => t.setIfInBounds p v) a.tmps, defers := [] } W)
    (hbody : ∀ (l : Nat) (pre : List α) (x : α) (rest : List α) (W : World), xs = pre ++ x :: rest → I pre W → body.wpIn (F.inRound l) (n - 1 - 1) P (boxPost w.heap.size bn I (pre ++ [x]) W) (a₁ x) W)
    (hdone : ∀ (D : Nat) (W : World), w.heap.size ≤ D → I xs W → W.heap[D]? = some (.deferred (some [])) → Q .normal { a with defers := { target := .collected D, args := #[] } :: a.defers } W) :
    (Code.rangeFunc g ps assign body).wpIn F n P Q a w := by
  refine wpIn_rangeFunc ?_
  intro fn hfn
  rw [hro]
  obtain ⟨rec, hrec⟩ : ∃ rec : LoopState → Option Code → Loop, rec = fun st pe => { state := st, pending := pe, fn, tmps := a.tmps, params := ps, assign, body, defers := w.heap.size } := ⟨_, rfl⟩
  obtain ⟨V, hV⟩ : ∃ V, (w.alloc (.deferred (some []))).alloc (.loop (rec .ready none)) = V := ⟨_, rfl⟩
  have vL : V.heap[w.heap.size + 1]? = some (.loop (rec .ready none)) := by
    have := World.alloc_heap_new (w.alloc (.deferred (some []))) (.loop (rec .ready none))
    rw [World.size_alloc] at this
    rw [← hV]; exact this
  have vD : V.heap[w.heap.size]? = some (.deferred (some [])) := by
    rw [← hV]; exact (Below.heap_alloc _ _ _ (by simp)).trans (World.alloc_heap_new w _)
  have vI : I [] V := by rw [← hV]; exact hI.alloc _ (hI.alloc _ h0)
  have vb : V.heap[bn]? = w.heap[bn]? := by
    rw [← hV]; exact (Below.heap_alloc _ _ _ (by simp; omega)).trans (Below.heap_alloc _ _ _ hbn)
  refine ⟨w.heap.size + 1, [{ target := .collected w.heap.size, args := #[] }], V, { target := .fn (.func gf) lb, args := #[.func (.yield (w.heap.size + 1)) #[] #[]] }, V, gf,
    #[.func (.yield (w.heap.size + 1)) #[] #[]] ++ lb, V, ?_, ?_, ?_, ?_, fun _ => h1, ?_⟩
  · rw [← hV, hrec]; exact run_enterLoop_outer _ _ _ _ _
  · simp only [resolve, hg]
    simp [go_sem]
  · intro f' hf'; simp [Target.leads] at hf'; subst hf'; exact hFg
  · simp [invoke, go_sem, eg]
  refine (hseq (w.heap.size + 1) (fun pre W => I pre W ∧ W.heap[w.heap.size + 1]? = some (.loop (rec .ready none)) ∧ W.heap[w.heap.size]? = some (.deferred (some []))) V vb ?_ ?_ ⟨vI, vL, vD⟩).mono ?_
  · rintro s A v ⟨i1, i2, i3⟩
    exact ⟨hIb s A v i1, (Below.heap_setCell _ _ _ _ (by dsimp only; omega)).trans i2, (Below.heap_setCell _ _ _ _ (by dsimp only; omega)).trans i3⟩
  · rintro pre x rest W hxs ⟨hi, hl, hk⟩
    have hlt : w.heap.size + 1 < W.heap.size := (Array.getElem?_eq_some_iff.1 hl).1
    have hy := run_yield (P := P) (args := encs x) hl (by rw [hrec]; exact hps x)
    rw [hrec] at hy
    refine ⟨fn, _, assign, body, hy, roundIn_of_wpIn hfn (hassign _ x W _ ⟨_, run_beginRound hl (by rw [hrec]), ?_⟩)⟩
    obtain ⟨U, hU⟩ : ∃ U, W.putObj (w.heap.size + 1) (.loop { rec .ready none with state := .busy }) = U := ⟨_, rfl⟩
    have uL : U.heap[w.heap.size + 1]? = some (.loop { rec .ready none with state := .busy }) := by rw [← hU]; exact World.putObj_heap_same hlt
    have uD : U.heap[w.heap.size]? = some (.deferred (some [])) := by rw [← hU]; exact (World.putObj_heap_other (by omega)).trans hk
    have ub : U.heap[bn]? = W.heap[bn]? := by rw [← hU]; exact World.putObj_heap_other (by omega)
    have uI : I pre U := by rw [← hU]; exact hI.putObj _ hi (by omega) hl rfl
    rw [show W.putObj (w.heap.size + 1) (.loop { rec .ready none with state := .busy }) = U from hU]
    refine wpIn_mono (hbody _ pre x rest _ hxs uI) ?_
    rintro e a3 W3 hp
    cases e with
    | normal =>
      obtain ⟨hk3, hb3, hi3⟩ := hp
      have hl3 := hk3.same _ _ (by omega) uL rfl
      have hr := run_endRound (P := P) none hl3
      rw [hrec] at hr
      refine ⟨_, _, hr, rfl, ⟨hI.putObj _ hi3 (by omega) hl3 rfl, ?_, ?_⟩, ?_⟩
      · rw [hrec]; exact World.putObj_heap_same (Array.getElem?_eq_some_iff.1 hl3).1
      · exact (World.putObj_heap_other (by omega)).trans (hk3.same _ _ (Nat.le_refl _) uD rfl)
      · exact (World.putObj_heap_other (by omega)).trans (hb3.trans ub)
    | ret => exact hp.elim
    | exit id => exact hp.elim
    | goto t => exact hp.elim
    | panic ch => exact hp.elim
    | outgrown => exact hp.elim
  · rintro e W2 ⟨⟨v, rfl⟩, hi, hl, hk⟩
    have hr := run_endLoop (P := P) hl (by rw [hrec]; simp)
    rw [hrec] at hr
    exact ⟨none, _, hr, hdone _ _ (Nat.le_refl _) (hI.putObj _ hi (by omega) hl rfl) ((World.putObj_heap_other (by omega)).trans hk)⟩
end Go.Proofs.YtmmiknlpndjdlaaGreatDoor
