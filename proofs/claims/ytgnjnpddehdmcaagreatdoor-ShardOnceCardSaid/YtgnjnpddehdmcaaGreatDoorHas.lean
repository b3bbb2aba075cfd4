/- Ranges: whether a key is in one. -/
import Derived.Lib.Hide
import Derived.Test.YtgnjnpddehdmcaaGreatDoorRows
import Derived.WalkKit
import Derived.ProofKit
import Derived.OpenShut
import Derived.LoopN
import Derived.WalkSpells
import Derived.WalkLawsBesides
import Derived.Lib.SlTrimSet
import Derived.Shelf.GgClosure.StringsIndexFunc
import Derived.Shelf.Strings.Builder1
import Derived.Shelf.Strings.Builder2
import Derived.Shelf.Strings.OnBuilder
import Derived.Shelf.Strings.Trim
import Derived.Shelf.Small.Utf8
import Derived.Shelf.Small.Bits
import Derived.Shelf.Small.Strs
import Derived.Shelf.Small.Wraps
import Derived.Shelf.Strings.BuilderF
import Derived.Shelf.Strings.BuilderK
import Derived.Shelf.Strings.Builder2Cap
import Derived.Shelf.Strconv.Itoa0
import Derived.Shelf.Strconv.Itoa1
import Derived.Shelf.LaysM
import Derived.Shelf.Strconv.Itoa2
import Derived.Shelf.Strconv.Itoa3
import Derived.Shelf.Strconv.Itoa4
import Derived.Shelf.Strings.Search1
import Derived.Shelf.Sort.Plain
import Derived.Ground.GgwProg
import Derived.Shelf.GgClosure.StringsIndexFuncTop
import Derived.Shelf.Unicode.Decode
import Derived.Shelf.Strings.Runes
import Derived.Shelf.Strings.AsciiSet
import Derived.Shelf.Unicode.DecodeSlow
import Derived.Shelf.Unicode.DecodeAny
import Derived.Shelf.Unicode.DecodeLast
import Derived.Shelf.Strings.BuilderCap
import Derived.Ground.Names2Prog
import Derived.Shelf.Slices.SearchI
import Derived.Shelf.Slices.In.SortNone
import Derived.Ground.SlbCloneProg
import Derived.Shelf.Bytes.SlClone
import Derived.Shelf.Strings.SlTrimAscii
import Derived.Shelf.SlGeneric
import Derived.Test.YtgnjnpddehdmcaaGreatDoorProg
namespace Go.Proofs.YtgnjnpddehdmcaaGreatDoor
set_option linter.unusedSimpArgs false
set_option linter.unusedVariables false
abbrev Ef := Int × Int × Int
def okE (x : Ef) : Bool := decide (1 ≤ x.1) && decide (x.1 ≤ 9999) && (decide (0 ≤ x.2.1) && decide (x.2.1 < 8)) && (decide (1 ≤ x.2.2) && decide (x.2.2 ≤ 3))
def head (l : List Ef) : Int := (l.headD (0, 0, 0)).1
def efLt (x y : Ef) : Bool := decide (x.1 < y.1) || (decide (x.1 = y.1) && (decide (x.2.1 < y.2.1) || (decide (x.2.1 = y.2.1) && decide (x.2.2 < y.2.2))))
abbrev Rp := Int × Int × ByteArray
structure En where
 e : Ef
 k : ByteArray
 r : Rp
instance : Inhabited En := ⟨⟨(0, 0, 0), ⟨#[]⟩, (0, 0, ⟨#[]⟩)⟩⟩
def ins (x : En) (P : List En) : List En := P.takeWhile (fun y => efLt y.e x.e) ++ x :: P.dropWhile (fun y => efLt y.e x.e)
def srt (R : List En) : List En := R.foldl (fun P x => ins x P) []
def insE (x : Ef) (P : List Ef) : List Ef := P.takeWhile (fun y => efLt y x) ++ x :: P.dropWhile (fun y => efLt y x)
def srtE (R : List Ef) : List Ef := R.foldl (fun P x => insE x P) []
theorem map_ins (x : En) : ∀ P : List En, (ins x P).map En.e = insE x.e (P.map En.e) := by
 intro P
 unfold ins insE
 rw [List.map_append, List.map_cons, List.takeWhile_map, List.dropWhile_map]
 rfl
theorem map_foldl_ins : ∀ (R P : List En), (R.foldl (fun P x => ins x P) P).map En.e = (R.map En.e).foldl (fun P x => insE x P) (P.map En.e)
 | [], P => rfl
 | x :: R, P => by rw [List.foldl_cons, map_foldl_ins R, map_ins]; rfl
theorem map_srt (R : List En) : (srt R).map En.e = srtE (R.map En.e) := map_foldl_ins R []
theorem srt_snoc (R : List En) (x : En) : srt (R ++ [x]) = ins x (srt R) := by unfold srt; rw [List.foldl_append]; rfl
theorem insE_len (x : Ef) (P : List Ef) : (insE x P).length = P.length + 1 := by
 unfold insE
 have := congrArg List.length (List.takeWhile_append_dropWhile (p := fun y => efLt y x) (l := P))
 rw [List.length_append] at this ⊢
 rw [List.length_cons]; omega
theorem ins_len (x : En) (P : List En) : (ins x P).length = P.length + 1 := by
 have := congrArg List.length (map_ins x P)
 rw [List.length_map, insE_len, List.length_map] at this; exact this
theorem foldl_ins_len : ∀ (R P : List En), (R.foldl (fun P x => ins x P) P).length = P.length + R.length
 | [], P => rfl
 | x :: R, P => by rw [List.foldl_cons, foldl_ins_len R, ins_len, List.length_cons]; omega
theorem srt_len (R : List En) : (srt R).length = R.length := by unfold srt; rw [foldl_ins_len]; simp
theorem mem_ins {x y : En} {P : List En} : y ∈ ins x P ↔ y = x ∨ y ∈ P := by
 unfold ins
 have h := List.takeWhile_append_dropWhile (p := fun z : En => efLt z.e x.e) (l := P)
 constructor
 ·
  intro hm
  rcases List.mem_append.1 hm with hm | hm
  ·
   exact .inr (by rw [← h]; exact List.mem_append_left _ hm)
  ·
   rcases List.mem_cons.1 hm with rfl | hm
   ·
    exact .inl rfl
   ·
    exact .inr (by rw [← h]; exact List.mem_append_right _ hm)
 ·
  rintro (rfl | hm)
  ·
   exact List.mem_append_right _ (by simp)
  ·
   rw [← h] at hm
   rcases List.mem_append.1 hm with hm | hm
   ·
    exact List.mem_append_left _ hm
   ·
    exact List.mem_append_right _ (List.mem_cons_of_mem _ hm)
theorem mem_foldl_ins {y : En} : ∀ (R P : List En), y ∈ R.foldl (fun P x => ins x P) P ↔ y ∈ P ∨ y ∈ R
 | [], P => by simp
 | x :: R, P => by
  rw [List.foldl_cons, mem_foldl_ins R, mem_ins, List.mem_cons]
  constructor
  ·
   rintro ((h | h) | h)
   ·
    exact .inr (.inl h)
   ·
    exact .inl h
   ·
    exact .inr (.inr h)
  ·
   rintro (h | h | h)
   ·
    exact .inl (.inr h)
   ·
    exact .inl (.inl h)
   ·
    exact .inr h
theorem mem_srt {y : En} {R : List En} : y ∈ srt R ↔ y ∈ R := by unfold srt; rw [mem_foldl_ins]; simp
theorem efLt_ii (x y : Ef) : efLt x y = true ↔ (x.1 < y.1 ∨ (x.1 = y.1 ∧ (x.2.1 < y.2.1 ∨ (x.2.1 = y.2.1 ∧ x.2.2 < y.2.2)))) := by
 simp [efLt]
theorem efLt_irr (x : Ef) : efLt x x = false := by
 rw [Bool.eq_false_iff, Ne, efLt_ii]; omega
theorem efLt_trn {x y z : Ef} (h1 : efLt x y = true) (h2 : efLt y z = true) : efLt x z = true := by
 rw [efLt_ii] at *; omega
theorem efLt_tot {x y : Ef} (h1 : efLt x y = false) (h2 : x ≠ y) : efLt y x = true := by
 rw [efLt_ii]
 rw [Bool.eq_false_iff, Ne, efLt_ii] at h1
 obtain ⟨a, b, c⟩ := x
 obtain ⟨a', b', c'⟩ := y
 simp only [ne_eq, Prod.mk.injEq, not_and] at h1 h2 ⊢
 by_cases e1 : a = a'
 ·
  by_cases e2 : b = b'
  ·
   have := h2 e1 e2; omega
  ·
   omega
 ·
  omega
def Ord (P : List En) : Prop := P.Pairwise fun x y => efLt x.e y.e = true
theorem tw_all {x : Ef} : ∀ (P : List En) (y : En), y ∈ P.takeWhile (fun z => efLt z.e x) → efLt y.e x = true
 | [], y, h => by simp at h
 | a :: P, y, h => by
  by_cases ha : efLt a.e x = true
  ·
   rw [List.takeWhile_cons_of_pos (p := fun z : En => efLt z.e x) ha] at h
   rcases List.mem_cons.1 h with rfl | h
   ·
    exact ha
   ·
    exact tw_all P y h
  ·
   rw [List.takeWhile_cons_of_neg (p := fun z : En => efLt z.e x) ha] at h; cases h
theorem dw_all {x : Ef} : ∀ (P : List En), Ord P → ∀ y, y ∈ P.dropWhile (fun z => efLt z.e x) → efLt y.e x = false
 | [], _, y, h => by simp at h
 | a :: P, ho, y, h => by
  by_cases ha : efLt a.e x = true
  ·
   rw [List.dropWhile_cons_of_pos (p := fun z : En => efLt z.e x) ha] at h
   exact dw_all P (List.pairwise_cons.1 ho).2 y h
  ·
   rw [List.dropWhile_cons_of_neg (p := fun z : En => efLt z.e x) ha] at h
   rcases List.mem_cons.1 h with rfl | h
   ·
    simpa using ha
   ·
    have h1 := (List.pairwise_cons.1 ho).1 y h
    cases h2 : efLt y.e x with
    | false => rfl
    | true => exact absurd (efLt_trn h1 h2) ha
theorem ord_ins {x : En} {P : List En} (ho : Ord P) (hx : ∀ y ∈ P, y.e ≠ x.e) : Ord (ins x P) := by
 unfold ins Ord
 have h := List.takeWhile_append_dropWhile (p := fun z : En => efLt z.e x.e) (l := P)
 have ho' := ho
 unfold Ord at ho'
 rw [← h, List.pairwise_append] at ho'
 obtain ⟨h1, h2, h3⟩ := ho'
 rw [List.pairwise_append]
 refine ⟨h1, List.pairwise_cons.2 ⟨fun y hy => ?_, h2⟩, fun a ha b hb => ?_⟩
 ·
  have hy' := hx y (by rw [← h]; exact List.mem_append_right _ hy)
  exact efLt_tot (dw_all P ho y hy) hy'
 ·
  rcases List.mem_cons.1 hb with rfl | hb
  ·
   exact tw_all P a ha
  ·
   exact h3 a ha b hb
def Dist (R : List En) : Prop := R.Pairwise fun x y => x.e ≠ y.e
theorem ord_foldl : ∀ (R P : List En), Ord P → Dist R → (∀ x ∈ R, ∀ y ∈ P, y.e ≠ x.e) → Ord (R.foldl (fun P x => ins x P) P)
 | [], P, ho, _, _ => ho
 | x :: R, P, ho, hd, hx => by
  rw [List.foldl_cons]
  refine ord_foldl R _ (ord_ins ho (hx x (by simp))) (List.pairwise_cons.1 hd).2 fun z hz y hy => ?_
  rcases mem_ins.1 hy with rfl | hy
  ·
   exact (List.pairwise_cons.1 hd).1 z hz
  ·
   exact hx z (List.mem_cons_of_mem _ hz) y hy
theorem ord_srt {R : List En} (hd : Dist R) : Ord (srt R) := ord_foldl R [] List.Pairwise.nil hd (by simp)
theorem dist_snoc {R : List En} {x : En} (hd : Dist R) (hx : ∀ y ∈ R, y.e ≠ x.e) : Dist (R ++ [x]) := by
 unfold Dist
 rw [List.pairwise_append]
 exact ⟨hd, List.pairwise_singleton .., fun a ha b hb => by rw [List.mem_singleton] at hb; subst hb; exact hx a ha⟩
theorem dist_filter {R : List En} (hd : Dist R) (p : En → Bool) : Dist (R.filter p) := List.Pairwise.sublist List.filter_sublist hd
theorem ord_filter {R : List En} (hd : Ord R) (p : En → Bool) : Ord (R.filter p) := List.Pairwise.sublist List.filter_sublist hd
theorem ord_dist {R : List En} (h : Ord R) : Dist R := List.Pairwise.imp (fun {a b} h e => by rw [e, efLt_irr] at h; cases h) h
theorem ord_eq : ∀ {P Q : List En}, Ord P → Ord Q → (∀ x, x ∈ P ↔ x ∈ Q) → P = Q
 | [], [], _, _, _ => rfl
 | [], y :: Q, _, _, h => absurd ((h y).2 (by simp)) (by simp)
 | x :: P, [], _, _, h => absurd ((h x).1 (by simp)) (by simp)
 | x :: P, y :: Q, hp, hq, h => by
  have hp' := List.pairwise_cons.1 hp
  have hq' := List.pairwise_cons.1 hq
  have hxy : x = y := by
   rcases List.mem_cons.1 ((h x).1 (by simp)) with e | hx
   ·
    exact e
   ·
    rcases List.mem_cons.1 ((h y).2 (by simp)) with e | hy
    ·
     exact e.symm
    ·
     have := efLt_trn (hq'.1 x hx) (hp'.1 y hy)
     rw [efLt_irr] at this; cases this
  subst hxy
  congr 1
  refine ord_eq hp'.2 hq'.2 fun z => ?_
  have hz := h z
  rw [List.mem_cons, List.mem_cons] at hz
  constructor
  ·
   intro hm
   rcases hz.1 (.inr hm) with rfl | hm'
   ·
    have := hp'.1 _ hm; rw [efLt_irr] at this; cases this
   ·
    exact hm'
  ·
   intro hm
   rcases hz.2 (.inr hm) with rfl | hm'
   ·
    have := hq'.1 _ hm; rw [efLt_irr] at this; cases this
   ·
    exact hm'
theorem filter_srt {R : List En} (hd : Dist R) (p : En → Bool) : (srt R).filter p = srt (R.filter p) := by
 refine ord_eq (ord_filter (ord_srt hd) p) (ord_srt (dist_filter hd p)) fun x => ?_
 rw [List.mem_filter, mem_srt, mem_srt, List.mem_filter]
def pos (P : List En) (e : Ef) : Nat := (P.takeWhile (fun z => efLt z.e e)).length
def look (P : List En) (e : Ef) : Option En := P.find? (fun z => decide (z.e = e))
theorem look_dist {P Q : List En} (hd : Dist P) (hq : Dist Q) (h : ∀ x, x ∈ P ↔ x ∈ Q) (e : Ef) : look P e = look Q e := by
 have one : ∀ {P : List En}, Dist P → ∀ {x : En}, x ∈ P → x.e = e → look P e = some x := by
  intro P hd x hx he
  unfold look
  induction P with
  | nil => cases hx
  | cons a P ih =>
   rw [List.find?_cons]
   have hd' := List.pairwise_cons.1 hd
   rcases List.mem_cons.1 hx with rfl | hx
   ·
    rw [decide_eq_true he]
   ·
    have : ¬ a.e = e := fun q => hd'.1 x hx (q.trans he.symm)
    rw [decide_eq_false this]
    exact ih hd'.2 hx
 cases hp : look P e with
 | none =>
  cases hq' : look Q e with
  | none => rfl
  | some y =>
   have h1 := List.find?_some hq'
   have h2 := List.mem_of_find?_eq_some hq'
   have := one hd ((h y).2 h2) (by simpa using h1)
   rw [hp] at this; cases this
 | some x =>
  have h1 := List.find?_some hp
  have h2 := List.mem_of_find?_eq_some hp
  exact (one hq ((h x).1 h2) (by simpa using h1)).symm
theorem look_srt {R : List En} (hd : Dist R) (e : Ef) : look (srt R) e = look R e := look_dist (ord_dist (ord_srt hd)) hd (fun x => mem_srt) e
theorem look_pos {P : List En} (ho : Ord P) (e : Ef) : look P e = (match P[pos P e]? with | some x => if x.e = e then some x else none | none => none) := by
 unfold look pos
 induction P with
 | nil => rfl
 | cons a P ih =>
  have ho' := List.pairwise_cons.1 ho
  by_cases ha : efLt a.e e = true
  ·
   have hne : ¬ a.e = e := fun q => by rw [q, efLt_irr] at ha; cases ha
   rw [List.takeWhile_cons_of_pos (p := fun z : En => efLt z.e e) ha, List.find?_cons, decide_eq_false hne, List.length_cons, List.getElem?_cons_succ]
   exact ih ho'.2
  ·
   rw [List.takeWhile_cons_of_neg (p := fun z : En => efLt z.e e) ha, List.find?_cons]
   simp only [List.length_nil, List.getElem?_cons_zero]
   by_cases he : a.e = e
   ·
    rw [decide_eq_true he, if_pos he]
   ·
    rw [decide_eq_false he, if_neg he]
    rw [List.find?_eq_none]
    intro x hx
    have h1 := ho'.1 x hx
    have h2 := efLt_tot (by simpa using ha) he
    have h3 := efLt_trn h2 h1
    simp only [decide_eq_true_eq]
    intro q
    rw [q, efLt_irr] at h3; cases h3
theorem pos_le (P : List En) (e : Ef) : pos P e ≤ P.length := by
 unfold pos
 have := congrArg List.length (List.takeWhile_append_dropWhile (p := fun z : En => efLt z.e e) (l := P))
 rw [List.length_append] at this; omega
theorem take_pos (P : List En) (e : Ef) : P.take (pos P e) = P.takeWhile (fun z => efLt z.e e) := by
 have h := List.takeWhile_append_dropWhile (p := fun z : En => efLt z.e e) (l := P)
 unfold pos
 generalize P.takeWhile (fun z => efLt z.e e) = a at *
 generalize P.dropWhile (fun z => efLt z.e e) = b at *
 rw [← h]; simp
theorem drop_pos (P : List En) (e : Ef) : P.drop (pos P e) = P.dropWhile (fun z => efLt z.e e) := by
 have h := List.takeWhile_append_dropWhile (p := fun z : En => efLt z.e e) (l := P)
 unfold pos
 generalize P.takeWhile (fun z => efLt z.e e) = a at *
 generalize P.dropWhile (fun z => efLt z.e e) = b at *
 rw [← h]; simp
theorem ins_pos (x : En) (P : List En) : ins x P = P.take (pos P x.e) ++ x :: P.drop (pos P x.e) := by rw [take_pos, drop_pos]; rfl
end Go.Proofs.YtgnjnpddehdmcaaGreatDoor

namespace Go.Proofs.YtgnjnpddehdmcaaGreatDoor
open Go.RowKit

theorem below_drewN {B : Nat} {a w : World} (h : Below B a w) (n : Nat) : Below B a (w.drewN n) := ⟨h.os, h.tape, h.output, h.size, h.block⟩
theorem belowThen {w W w1 : World} (hb : Below W.heap.size W w1) (h : Below w.heap.size w W) : Below w.heap.size w w1 := h.trans (hb.mono h.size)

section
variable {w : World} {g : Nat} {cs : Array Value} {t : TypeId} {f : Nat × Nat}
theorem hpNew (w : World) (o : Obj) : (w.alloc o).heap[w.heap.size]? = some o := by
 show (w.heap.push o)[w.heap.size]? = some o
 simp
theorem hpOld (o : Obj) (h : g < w.heap.size) : (w.alloc o).heap[g]? = w.heap[g]? := Below.heap_alloc w o g h
theorem hpSet {i : Nat} {v : Value} (h : w.heap[g]? = some (.cells cs t f)) : (w.setCell ⟨g, i, none⟩ v).heap[g]? = some (.cells (cs.setIfInBounds i v) t f) := by
 simp [World.setCell, Array.getElem?_modify, h]
theorem hpFar {a : Addr} {v : Value} (h : g ≠ a.block) : (w.setCell a v).heap[g]? = w.heap[g]? := Below.heap_setCell w a v g h
theorem hpNewAt (o : Obj) (h : g = w.heap.size) : (w.alloc o).heap[g]? = some o := by rw [h]; exact hpNew w o
theorem hpDrewAt {x : Option Obj} (h : w.heap[g]? = x) : w.drew.heap[g]? = x := h
theorem hpDrewNAt {x : Option Obj} (n : Nat) (h : w.heap[g]? = x) : (w.drewN n).heap[g]? = x := h
theorem blkC (h : w.heap[g]? = some (.cells cs t f)) : ∀ o, w.cell? ⟨g, o, none⟩ = cs[o]? := fun o => by simp [World.cell?, h]
theorem blkF (h : w.heap[g]? = some (.cells cs t (0, 0))) : ∀ o, w.frozen? ⟨g, o, none⟩ = false := fun o => by simp [World.frozen?, h]
theorem blkX (h : w.heap[g]? = some (.cells cs t f)) : g < w.heap.size := by
 rcases Nat.lt_or_ge g w.heap.size with hlt | hge
 ·
  exact hlt
 ·
  rw [Array.getElem?_eq_none hge] at h; cases h
end
theorem withBlk {P : Prop} {w1 W : World} {g : Nat} {x : Option Obj} (hb : w1.heap[g]? = W.heap[g]?) (h : W.heap[g]? = x) (k : w1.heap[g]? = x → P) : P := k (hb.trans h)
theorem ret_int {k : IntKind} {a b : Int} (h : a = b) : Ending.returned (.int k a) = .returned (.int k b) := by rw [h]
theorem ret_bool {a b : Bool} (h : a = b) : Ending.returned (.bool a) = .returned (.bool b) := by rw [h]
theorem Lh {p : Prop} (h : p) : Go.RowKit.Hid p := Go.Lib.hid h
theorem ta {P : Program} {md : Region.Mode} {ops : Array Oper} {Q : Exit → Act → World → Prop} (i : Nat) {oi : Oper} {v : Value} {fuel : Nat} {listed l' : Array Bool} {a a' : Act} {w : World} (h : wpAny P md ops Q fuel l' a' w) (hi : ops[i]? = some oi := by rfl)
  (hs : Region.noSelect ops = true := by kernel_rfl) (hf : Region.free md ops listed i = true := by kernel_rfl) (hr : (Region.ready md ops listed).contains i = true := by kernel_rfl)
  (hQ : ∀ c a w, Q (.panic c) (a.put oi.dst v) w → Q (.panic c) a w := by exact fun _ _ _ h => h) (hy : Yields P ops oi v a := by exact Or.inl ⟨by rfl, by intro w; go_simp; first | done | with_reducible rfl⟩)
  (hl : listed.setIfInBounds i true = l' := by first | (simp only [List.setIfInBounds_toArray, List.set_cons_zero, List.set_cons_succ]; rfl) | rfl)
  (ha : a.put oi.dst v = a' := by simp only [List.getElem_toArray, List.getElem_cons_succ, List.getElem_cons_zero, Act.put, List.setIfInBounds_toArray, List.set_cons_zero, List.set_cons_succ]; rfl)
  : wpAny P md ops Q (fuel + 1) listed a w := by
 subst hl; subst ha
 exact wpAny_take hi hs hf hr hQ hy h
theorem tz {P : Program} {md : Region.Mode} {ops : Array Oper} {Q : Exit → Act → World → Prop} (i : Nat) {oi : Oper} {fuel : Nat} {listed l' : Array Bool} {a a' : Act} {w : World} (h : wpAny P md ops Q fuel l' a' w) (hi : ops[i]? = some oi := by rfl)
  (hs : Region.noSelect ops = true := by kernel_rfl) (hf : Region.free md ops listed i = true := by kernel_rfl) (hr : (Region.ready md ops listed).contains i = true := by kernel_rfl)
  (hQ : ∀ c a w, Q (.panic c) (a.put oi.dst undef) w → Q (.panic c) a w := by exact fun _ _ _ h => h) (hy : Yields P ops oi undef a := by exact Or.inr ⟨by rfl, rfl⟩)
  (hl : listed.setIfInBounds i true = l' := by first | (simp only [List.setIfInBounds_toArray, List.set_cons_zero, List.set_cons_succ]; rfl) | rfl)
  (ha : a.put oi.dst undef = a' := by simp only [List.getElem_toArray, List.getElem_cons_succ, List.getElem_cons_zero, Act.put, List.setIfInBounds_toArray, List.set_cons_zero, List.set_cons_succ]; rfl)
  : wpAny P md ops Q (fuel + 1) listed a w := by
 subst hl; subst ha
 exact wpAny_take hi hs hf hr hQ hy h
end Go.Proofs.YtgnjnpddehdmcaaGreatDoor

namespace Go.Proofs.YtgnjnpddehdmcaaGreatDoor
set_option linter.unusedSimpArgs false
set_option linter.unusedVariables false
def lets : List UInt8 := [97, 98, 99, 100, 101, 102, 103, 104, 105, 106, 107, 108, 109, 110, 111, 112, 113, 114, 115, 116, 117, 118, 119, 120, 121, 122, 48, 49, 50, 51, 52, 53, 54, 55, 56, 57]
def okC (b : UInt8) : Bool := lets.contains b
def nameB (s : ByteArray) : Bool := decide (1 ≤ s.size) && decide (s.size ≤ 16) && s.data.toList.all okC
set_option maxRecDepth 100000 in
theorem okC_iff (b : UInt8) : okC b = true ↔ (97 ≤ b.toNat ∧ b.toNat ≤ 122) ∨ (48 ≤ b.toNat ∧ b.toNat ≤ 57) := by
 have h : ∀ n : Fin 256, okC (UInt8.ofNat n.val) = decide ((97 ≤ n.val ∧ n.val ≤ 122) ∨ (48 ≤ n.val ∧ n.val ≤ 57)) := by decide
 have h2 := h ⟨b.toNat, b.toNat_lt⟩
 simp only [UInt8.ofNat_toNat] at h2
 rw [h2, decide_eq_true_eq]
theorem dw_nil (p : UInt8 → Bool) : ∀ l : List UInt8, l.dropWhile p = [] ↔ ∀ x ∈ l, p x = true
 | [] => by simp
 | a :: l => by
  by_cases h : p a = true
  ·
   rw [List.dropWhile_cons_of_pos h, dw_nil p l]; simp [h]
  ·
   rw [List.dropWhile_cons_of_neg h]; simp [h]
theorem dw_head (p : UInt8 → Bool) : ∀ (l : List UInt8) (x : UInt8) (r : List UInt8), l.dropWhile p = x :: r → p x = false
 | [], x, r, h => by simp at h
 | a :: l, x, r, h => by
  by_cases ha : p a = true
  ·
   rw [List.dropWhile_cons_of_pos ha] at h; exact dw_head p l x r h
  ·
   rw [List.dropWhile_cons_of_neg ha] at h
   injection h with h1 h2
   subst h1; simpa using ha
theorem trim_nil (l cs : List UInt8) : Lib.trimS l cs = [] ↔ l.all (cs.contains ·) = true := by
 unfold Lib.trimS Lib.trimLeftS Lib.trimRightS
 rw [dw_nil, List.all_eq_true]
 constructor
 ·
  intro h
  cases hm : l.reverse.dropWhile (cs.contains ·) with
  | nil => rw [dw_nil] at hm; exact fun x hx => hm x (List.mem_reverse.2 hx)
  | cons x r =>
   have h1 := dw_head _ _ _ _ hm
   rw [hm] at h
   have h2 := h x (by simp)
   rw [h1] at h2; cases h2
 ·
  intro h
  have : l.reverse.dropWhile (cs.contains ·) = [] := by rw [dw_nil]; exact fun x hx => h x (List.mem_reverse.1 hx)
  rw [this]; simp
theorem idx_none {s : ByteArray} (h : ∀ b ∈ s.data.toList, b.toNat < 123) : ∀ (f pos : Nat), Lib.idxFuncFrom (fun r => decide (122 < r)) true s f pos = -1
 | 0, _ => rfl
 | f + 1, pos => by
  unfold Lib.idxFuncFrom
  split
  ·
   rename_i hp
   have hg : (s.get! (pos + 0)) = s.data[pos]'hp := by
    show s.data[pos + 0]! = _
    rw [Nat.add_zero, getElem!_pos s.data pos hp]
   have hb := h (s.data[pos]'hp) (by simp)
   have hd : Utf8.decode s pos = ((s.data[pos]'hp).toNat, 1) := by
    unfold Utf8.decode
    simp only [hg]
    rw [if_pos (by omega)]
   rw [hd, if_neg (by simp; omega)]
   exact idx_none h f _
  ·
   rfl
theorem name_all {s : ByteArray} (h : s.data.toList.all okC = true) : decide (0 ≤ Lib.idxFunc (fun r => decide (122 < r)) true s) = false := by
 unfold Lib.idxFunc
 rw [idx_none]
 ·
  rfl
 ·
  intro b hb
  have := (okC_iff b).1 (List.all_eq_true.1 h b hb)
  omega
def lessB (a b : ByteArray) : Bool := Op.bytesLess a.toList b.toList
theorem bl_eq : ∀ x y : List UInt8, Op.bytesLess x y = decide (x < y)
 | [], [] => by simp [Op.bytesLess]
 | _ :: _, [] => by simp [Op.bytesLess]
 | [], _ :: _ => by simp [Op.bytesLess]
 | a :: x, b :: y => by
  rw [Op.bytesLess, bl_eq x y, Bool.eq_iff_iff]
  simp [List.cons_lt_cons_iff]
theorem tl_inj {a b : ByteArray} (h : a.toList = b.toList) : a = b := by
 rw [ByteArray.toList_eq, ByteArray.toList_eq] at h
 cases a; cases b
 simp only at h
 congr 1
 exact Array.toList_inj.1 h
theorem less_iff (a b : ByteArray) : lessB a b = true ↔ a.toList < b.toList := by unfold lessB; rw [bl_eq, decide_eq_true_eq]
theorem less_irr (a : ByteArray) : lessB a a = false := by
 rw [Bool.eq_false_iff, Ne, less_iff]; exact List.lt_irrefl _
theorem less_not {a b : ByteArray} : lessB a b = (!(lessB b a || decide (a = b))) := by
 rw [Bool.eq_iff_iff, Bool.not_eq_true', Bool.or_eq_false_iff, decide_eq_false_iff_not, less_iff, Bool.eq_false_iff, Ne, less_iff]
 constructor
 ·
  intro h
  exact ⟨fun q => List.lt_irrefl _ (List.lt_trans h q), fun e => by rw [e] at h; exact List.lt_irrefl _ h⟩
 ·
  rintro ⟨h1, h2⟩
  rcases Nat.lt_trichotomy 0 0 with h | h | h
  ·
   exact absurd h (Nat.lt_irrefl 0)
  ·
   by_cases h3 : a.toList < b.toList
   ·
    exact h3
   ·
    have h4 : b.toList ≤ a.toList := by simpa using h3
    have h5 : a.toList ≤ b.toList := by simpa using h1
    exact absurd (tl_inj (List.le_antisymm h5 h4)) h2
  ·
   exact absurd h (Nat.lt_irrefl 0)
theorem less_trans {a b c : ByteArray} (h1 : lessB a b = true) (h2 : lessB b c = true) : lessB a c = true := by
 rw [less_iff] at *; exact List.lt_trans h1 h2
abbrev Rg := ByteArray × ByteArray
def noText : ByteArray := ⟨#[]⟩
def endB (s : ByteArray) : Bool := decide (s = noText) || nameB s
def okG (g : Rg) : Bool := endB g.1 && endB g.2 && (decide (g.2 = noText) || lessB g.1 g.2)
def inG (g : Rg) (k : ByteArray) : Bool := !(lessB k g.1) && (decide (g.2 = noText) || lessB k g.2)
def okR (r : Rp) : Bool := decide (0 ≤ r.1) && decide (r.1 ≤ 18) && (decide (-1152921504606846976 ≤ r.2.1) && decide (r.2.1 ≤ 1152921504606846976)) && decide (r.2.2.size ≤ 65536)
def okP (x : En) : Bool := okE x.e && nameB x.k && okR x.r
def putC (size : Int) (P : List En) (x : En) : Int :=
 if okP x then (if (look P x.e).isSome then 6 else if size ≤ (P.length : Int) then 4 else 0) else 2
def putL (size : Int) (P : List En) (x : En) : List En := if putC size P x = 0 then ins x P else P
def putR (size : Int) (R : List En) (x : En) : List En := if putC size R x = 0 then R ++ [x] else R
def takeC (g : Rg) : Int := if okG g then 0 else 2
def takeL (g : Rg) (P : List En) : List En := if okG g then P.filter (fun x => !inG g x.k) else P
def takeO (g : Rg) (P : List En) : List Ef := if okG g then (P.filter fun x => inG g x.k).map En.e else []
def takeRO (g : Rg) (P : List En) : List Ef := if okG g then srtE ((P.filter fun x => inG g x.k).map En.e) else []
def getR (P : List En) (e : Ef) : Rp := match look P e with | some x => x.r | none => (0, 0, noText)
def getK (P : List En) (e : Ef) : ByteArray := match look P e with | some x => x.k | none => noText
structure Same (P R : List En) : Prop where
 eq : P = srt R
 dist : Dist R
 ok : ∀ x ∈ R, okP x = true
theorem Same.nil : Same [] [] := ⟨rfl, List.Pairwise.nil, by simp⟩
theorem Same.ord {P R : List En} (h : Same P R) : Ord P := by rw [h.eq]; exact ord_srt h.dist
theorem Same.len {P R : List En} (h : Same P R) : P.length = R.length := by rw [h.eq, srt_len]
theorem Same.look {P R : List En} (h : Same P R) (e : Ef) : look P e = Go.Proofs.YtgnjnpddehdmcaaGreatDoor.look R e := by rw [h.eq, look_srt h.dist]
theorem look_none {R : List En} {e : Ef} (h : (look R e).isSome = false) : ∀ y ∈ R, y.e ≠ e := by
 intro y hy
 cases hl : look R e with
 | some x => rw [hl] at h; cases h
 | none =>
  unfold look at hl
  rw [List.find?_eq_none] at hl
  simpa using hl y hy
theorem putC_zero {size : Int} {P : List En} {x : En} (h : putC size P x = 0) : okP x = true ∧ (look P x.e).isSome = false ∧ (P.length : Int) < size := by
 unfold putC at h
 split at h
 ·
  split at h
  ·
   cases h
  ·
   split at h
   ·
    cases h
   ·
    rename_i h1 h2 h3
    exact ⟨h1, by simpa using h2, by omega⟩
 ·
  cases h
theorem Same.putC {P R : List En} (h : Same P R) (size : Int) (x : En) : putC size P x = Go.Proofs.YtgnjnpddehdmcaaGreatDoor.putC size R x := by
 unfold Go.Proofs.YtgnjnpddehdmcaaGreatDoor.putC; rw [h.look, h.len]
theorem Same.put {P R : List En} (h : Same P R) (size : Int) (x : En) : Same (putL size P x) (putR size R x) := by
 unfold putL putR
 rw [h.putC]
 by_cases hc : Go.Proofs.YtgnjnpddehdmcaaGreatDoor.putC size R x = 0
 ·
  obtain ⟨h1, h2, _⟩ := putC_zero hc
  rw [if_pos hc, if_pos hc]
  refine ⟨by rw [srt_snoc, h.eq], dist_snoc h.dist (look_none h2), fun y hy => ?_⟩
  rcases List.mem_append.1 hy with hy | hy
  ·
   exact h.ok y hy
  ·
   rw [List.mem_singleton] at hy; subst hy; exact h1
 ·
  rw [if_neg hc, if_neg hc]; exact h
theorem Same.take {P R : List En} (h : Same P R) (g : Rg) : Same (takeL g P) (takeL g R) ∧ takeO g P = takeRO g R := by
 unfold takeL takeO takeRO
 by_cases hg : okG g = true
 ·
  rw [if_pos hg, if_pos hg, if_pos hg, if_pos hg]
  refine ⟨⟨by rw [h.eq, filter_srt h.dist], dist_filter h.dist _, fun x hx => h.ok x (List.mem_filter.1 hx).1⟩, ?_⟩
  rw [h.eq, filter_srt h.dist, map_srt]
 ·
  rw [if_neg hg, if_neg hg, if_neg hg, if_neg hg]
  exact ⟨h, rfl⟩
theorem Same.all {P R : List En} (h : Same P R) : P.map En.e = srtE (R.map En.e) := by rw [h.eq, map_srt]
theorem putL_len (size : Int) (P : List En) (x : En) : (putL size P x).length ≤ P.length + 1 := by
 unfold putL; split
 ·
  rw [ins_len]; omega
 ·
  omega
theorem pos_iff {P : List En} (ho : Ord P) {e : Ef} {i : Nat} {x : En} (h : P[i]? = some x) : i < pos P e ↔ efLt x.e e = true := by
 have hi : i < P.length := (List.getElem?_eq_some_iff.1 h).1
 constructor
 ·
  intro hp
  have h1 : (P.take (pos P e))[i]? = some x := by rw [List.getElem?_take, if_pos hp]; exact h
  rw [take_pos] at h1
  exact tw_all P x (List.mem_of_getElem? h1)
 ·
  intro hl
  rcases Nat.lt_or_ge i (pos P e) with hp | hp
  ·
   exact hp
  ·
   have h1 : (P.drop (pos P e))[i - pos P e]? = some x := by rw [List.getElem?_drop, show pos P e + (i - pos P e) = i from by omega]; exact h
   rw [drop_pos] at h1
   have := dw_all P ho x (List.mem_of_getElem? h1)
   rw [hl] at this; cases this
def hasB (P : List En) (e : Ef) : Bool := (look P e).isSome
theorem has_pos {P : List En} (ho : Ord P) {e : Ef} {x : En} (h : P[pos P e]? = some x) : hasB P e = decide (x.e = e) := by
 unfold hasB
 rw [look_pos ho, h]
 by_cases q : x.e = e
 ·
  simp [q]
 ·
  simp [q]
theorem has_end {P : List En} (ho : Ord P) {e : Ef} (h : pos P e = P.length) : hasB P e = false := by
 unfold hasB
 rw [look_pos ho, List.getElem?_eq_none (by omega)]
 rfl
end Go.Proofs.YtgnjnpddehdmcaaGreatDoor

namespace Go.Proofs
open Go.Shelf
def Tryz.laysGw17_ren : Go.Shelf.Ren := ⟨fun | 17 => 188 | 15 => 256 | 20 => 286 | n => n, fun | 9 => 9 | 23 => 235 | 4 => 4 | 3 => 3 | 0 => 0 | 21 => 21 | n => n, fun | n => n⟩
theorem Tryz.laysGw17 : Go.Proofs.LaysGw.n17 Tryz.prog Tryz.laysGw17_ren := {
 mixed := by kernel_rfl
 f15 := Tryz.func256.trans (congrArg some (by kernel_rfl))
 f17 := Tryz.func188.trans (congrArg some (by kernel_rfl))
 f20 := Tryz.func286.trans (congrArg some (by kernel_rfl))
 t0 := Tryz.underlying0
 a0 := Tryz.isAgg0
 z0 := Tryz.sizeOf0
 v0 := Tryz.zeroValue0
 i0 := by kernel_rfl
 t3 := Tryz.underlying3
 a3 := Tryz.isAgg3
 z3 := Tryz.sizeOf3
 v3 := Tryz.zeroValue3
 i3 := by kernel_rfl
 t4 := Tryz.underlying4
 a4 := Tryz.isAgg4
 z4 := Tryz.sizeOf4
 v4 := Tryz.zeroValue4
 i4 := by kernel_rfl
 t9 := Tryz.underlying9
 a9 := Tryz.isAgg9
 z9 := Tryz.sizeOf9
 v9 := Tryz.zeroValue9
 i9 := by kernel_rfl
 t21 := Tryz.underlying21
 a21 := Tryz.isAgg21
 z21 := Tryz.sizeOf21
 v21 := Tryz.zeroValue21
 i21 := by kernel_rfl
 t23 := Tryz.underlying235
 a23 := Tryz.isAgg235
 z23 := Tryz.sizeOf235
 v23 := Tryz.zeroValue235
 i23 := by kernel_rfl }
open Go.RowKit Go.Lib in
theorem Tryz.strings_ContainsFunc (g : Nat) (lb : Array Value) (eg : ∀ args w, (callFunc g args).run Tryz.prog w = .ok (.enter g args) w) (p : Nat → Bool) (s : ByteArray) (w : World) (hp : PredAt Tryz.prog g lb encR p w) :
  Calls Tryz.prog 188 #[.string s, .func (.func g) #[] lb] w fun e w' => e = .returned (.bool (decide (0 ≤ Lib.idxFunc p true s))) ∧ Below w.heap.size w w' := Any.strings_ContainsFunc Tryz.laysGw17 g lb eg p s w hp
def Tryz.laysSlK4_ren : Go.Shelf.Ren := ⟨fun | 4 => 236 | n => n, fun | 22 => 189 | 4 => 4 | 5 => 5 | n => n, fun | n => n⟩
theorem Tryz.laysSlK4 : Go.Proofs.SlLaysK.n4 Tryz.prog Tryz.laysSlK4_ren := {
 mixed := by kernel_rfl
 f4 := Tryz.func236.trans (congrArg some (by kernel_rfl))
 t4 := Tryz.underlying4
 a4 := Tryz.isAgg4
 z4 := Tryz.sizeOf4
 v4 := Tryz.zeroValue4
 t22 := Tryz.underlying189
 a22 := Tryz.isAgg189
 z22 := Tryz.sizeOf189
 v22 := Tryz.zeroValue189
 t5 := Tryz.underlying5
 i5 := by kernel_rfl }
open Go.RowKit Go.Lib in
theorem Tryz.bytes_Clone_at (a : Addr) (n c : Nat) (xs : List Int) (w : World) (hx : xs.length = n) (hbig : n ≤ 140737488355328) (hc : ∀ i, i < n → w.cell? (a.add i) = some (.int .u8 (xs.getD i 0))) :
  Calls Tryz.prog 236 #[.slice (some a) n c] w fun e w' => ∃ v', e = .returned v' ∧ w'.ownsRow w.heap.size 5 1 v' n (xs.map (Value.int .u8)) ∧ v' ≠ .slice none 0 0 ∧ Below w.heap.size w w' := Any.bytes_Clone_at Tryz.laysSlK4 a n c xs w hx hbig hc
open Go.RowKit Go.Lib in
theorem Tryz.bytes_Clone_nil (n c : Nat) (w : World) :
  Calls Tryz.prog 236 #[.slice none n c] w fun e w' => e = .returned (.slice none 0 0) ∧ w' = w := Any.bytes_Clone_nil Tryz.laysSlK4 n c w
def Tryz.lTrim_ren : Go.Shelf.Ren := ⟨fun | 160 => 187 | 232 => 250 | 231 => 249 | 227 => 251 | 234 => 253 | 233 => 252 | 236 => 255 | 235 => 254 | 228 => 282 | 271 => 285 | 151 => 284 | 197 => 283 | 120 => 303 | 152 => 302 | 260 => 301 | 137 => 318 | 119 => 319 | 224 => 320 | 225 => 321 | 217 => 325 | 266 => 327 | n => n, fun | 9 => 9 | 4 => 4 | 3 => 3 | 5 => 5 | 117 => 293 | 116 => 292 | 0 => 0 | 124 => 296 | 21 => 21 | 105 => 324 | 46 => 210 | 119 => 353 | 139 => 356 | 138 => 355 | n => n, fun | 3 => 1 | 4 => 2 | n => n⟩
theorem Tryz.lTrim : Go.Proofs.Lays.n160 Tryz.prog Tryz.lTrim_ren := {
 mixed := by kernel_rfl
 f119 := Tryz.func319.trans (congrArg some (by kernel_rfl))
 f120 := Tryz.func303.trans (congrArg some (by kernel_rfl))
 f137 := Tryz.func318.trans (congrArg some (by kernel_rfl))
 f151 := Tryz.func284.trans (congrArg some (by kernel_rfl))
 f152 := Tryz.func302.trans (congrArg some (by kernel_rfl))
 f160 := Tryz.func187.trans (congrArg some (by kernel_rfl))
 f197 := Tryz.func283.trans (congrArg some (by kernel_rfl))
 f217 := Tryz.func325.trans (congrArg some (by kernel_rfl))
 f224 := Tryz.func320.trans (congrArg some (by kernel_rfl))
 f225 := Tryz.func321.trans (congrArg some (by kernel_rfl))
 f227 := Tryz.func251.trans (congrArg some (by kernel_rfl))
 f228 := Tryz.func282.trans (congrArg some (by kernel_rfl))
 f231 := Tryz.func249.trans (congrArg some (by kernel_rfl))
 f232 := Tryz.func250.trans (congrArg some (by kernel_rfl))
 f233 := Tryz.func252.trans (congrArg some (by kernel_rfl))
 f234 := Tryz.func253.trans (congrArg some (by kernel_rfl))
 f235 := Tryz.func254.trans (congrArg some (by kernel_rfl))
 f236 := Tryz.func255.trans (congrArg some (by kernel_rfl))
 f260 := Tryz.func301.trans (congrArg some (by kernel_rfl))
 f266 := Tryz.func327.trans (congrArg some (by kernel_rfl))
 f271 := Tryz.func285.trans (congrArg some (by kernel_rfl))
 t0 := Tryz.underlying0
 a0 := Tryz.isAgg0
 z0 := Tryz.sizeOf0
 v0 := Tryz.zeroValue0
 t3 := Tryz.underlying3
 a3 := Tryz.isAgg3
 z3 := Tryz.sizeOf3
 v3 := Tryz.zeroValue3
 t4 := Tryz.underlying4
 a4 := Tryz.isAgg4
 z4 := Tryz.sizeOf4
 v4 := Tryz.zeroValue4
 t5 := Tryz.underlying5
 a5 := Tryz.isAgg5
 z5 := Tryz.sizeOf5
 v5 := Tryz.zeroValue5
 t9 := Tryz.underlying9
 a9 := Tryz.isAgg9
 z9 := Tryz.sizeOf9
 v9 := Tryz.zeroValue9
 t21 := Tryz.underlying21
 a21 := Tryz.isAgg21
 z21 := Tryz.sizeOf21
 v21 := Tryz.zeroValue21
 t46 := Tryz.underlying210
 a46 := Tryz.isAgg210
 z46 := Tryz.sizeOf210
 v46 := Tryz.zeroValue210
 t105 := Tryz.underlying324
 a105 := Tryz.isAgg324
 z105 := Tryz.sizeOf324
 v105 := Tryz.zeroValue324
 t116 := Tryz.underlying292
 a116 := Tryz.isAgg292
 z116 := Tryz.sizeOf292
 t117 := Tryz.underlying293
 a117 := Tryz.isAgg293
 z117 := Tryz.sizeOf293
 v117 := Tryz.zeroValue293
 t119 := Tryz.underlying353
 a119 := Tryz.isAgg353
 z119 := Tryz.sizeOf353
 t124 := Tryz.underlying296
 a124 := Tryz.isAgg296
 z124 := Tryz.sizeOf296
 v124 := Tryz.zeroValue296
 t138 := Tryz.underlying355
 a138 := Tryz.isAgg355
 z138 := Tryz.sizeOf355
 v138 := Tryz.zeroValue355
 t139 := Tryz.underlying356
 a139 := Tryz.isAgg356
 z139 := Tryz.sizeOf356
 v139 := Tryz.zeroValue356
 g3 := by kernel_rfl
 g4 := by kernel_rfl }
open Go.RowKit Go.Lib Go.Sort in
theorem Tryz.strings_Trim (s cutset : ByteArray) (w : World) (hs : s.size ≤ 9223372036854775807) (hcs : cutset.size < 4294967281) (hascii : ∀ (j : Nat) b, cutset.data.toList[j]? = some b → b.toNat < 128) :
  Calls Tryz.prog 187 #[.string s, .string cutset] w fun e w' => e = .returned (.string ⟨(Lib.trimS s.data.toList cutset.data.toList).toArray⟩) ∧ Below w.heap.size w w' := Any.strings_Trim_laid Tryz.lTrim (by kernel_rfl) s cutset w hs hcs hascii
end Go.Proofs

namespace Go.Proofs.YtgnjnpddehdmcaaGreatDoor
open Go.RowKit Go.Shelf
set_option linter.unusedSimpArgs false
set_option linter.unusedVariables false
set_option linter.unusedSectionVars false
set_option maxRecDepth 10000
def cset : ByteArray := ⟨#[97, 98, 99, 100, 101, 102, 103, 104, 105, 106, 107, 108, 109, 110, 111, 112, 113, 114, 115, 116, 117, 118, 119, 120, 121, 122, 48, 49, 50, 51, 52, 53, 54, 55, 56, 57]⟩
theorem trim_any (s : ByteArray) (hs : s.size ≤ 140737488355328) (w : World) : Calls Tryz.prog 187 #[.string s, .string cset] w fun e w' => e = .returned (.string ⟨(Lib.trimS s.data.toList lets).toArray⟩) ∧ Below w.heap.size w w' :=
 Tryz.strings_Trim s cset w (by omega) (by decide) (ascii_of_all (by decide))
theorem pred_z (w : World) : PredAt Tryz.prog 189 #[] Go.Proofs.encR (fun r => decide (122 < r)) w := fun W r _ => by
 unfold FnGives
 go_enter Tryz.func189, Tryz.ntmps189
 go_wp2
 go_ret
 exact ⟨by simp; omega, 0, rfl⟩
theorem cont_any (s : ByteArray) (h : s.data.toList.all okC = true) (w : World) : Calls Tryz.prog 188 #[.string s, .func (.func 189) #[] #[]] w fun e w' => e = .returned (.bool false) ∧ Below w.heap.size w w' := by
 have := Tryz.strings_ContainsFunc 189 #[] (enters_of Tryz.func189 (by kernel_rfl) rfl) (fun r => decide (122 < r)) s w (pred_z w)
 rw [name_all h] at this
 exact this
set_option maxHeartbeats 1000000 in
theorem name_any (s : ByteArray) (hs : s.size ≤ 140737488355328) (w : World) : Calls Tryz.prog 95 #[.string s] w fun e w' => e = .returned (.bool (nameB s)) ∧ Below w.heap.size w w' := by
 by_cases h1 : 1 ≤ s.size
 ·
  have h1i : (1 : Int) ≤ s.size := by omega
  by_cases h2 : s.size ≤ 16
  ·
   have h2i : (s.size : Int) ≤ 16 := by omega
   have ht := trim_any s hs w
   unfold cset at ht
   cases hall : s.data.toList.all okC with
   | true =>
    have hB : nameB s = true := by simp [nameB, h1, h2, hall]
    have ht0 : Lib.trimS s.data.toList lets = [] := (trim_nil _ _).2 hall
    rw [hB]
    rw [ht0] at ht
    have hc := fun W => cont_any s hall W
    clear hall hB ht0
    go_enter Tryz.func95, Tryz.ntmps95
    go_wp2_with (fail)
    refine ht.mono ?_
    rintro e w1 ⟨rfl, b1⟩
    go_wp2_with (fail)
    refine (hc w1).mono ?_
    rintro e w2 ⟨rfl, b2⟩
    go_wp2_with (fail)
    go_ret
    exact ⟨rfl, b1.trans (b2.mono b1.size)⟩
   | false =>
    have hB : nameB s = false := by simp [nameB, hall]
    have ht0 : ¬ Lib.trimS s.data.toList lets = [] := fun e => by
     have := (trim_nil _ _).1 e
     rw [show s.data.toList.all (lets.contains ·) = s.data.toList.all okC from rfl, hall] at this
     cases this
    rw [hB]
    obtain ⟨x, r, hx⟩ : ∃ x r, Lib.trimS s.data.toList lets = x :: r := by
     cases hm : Lib.trimS s.data.toList lets with
     | nil => exact absurd hm ht0
     | cons x r => exact ⟨x, r, rfl⟩
    rw [hx] at ht
    clear hall hB ht0 hx
    go_enter Tryz.func95, Tryz.ntmps95
    go_wp2_with (fail)
    refine ht.mono ?_
    rintro e w1 ⟨rfl, b1⟩
    go_wp2_with (fail)
    go_ret
    exact ⟨rfl, b1⟩
  ·
   have h2i : ¬ (s.size : Int) ≤ 16 := by omega
   have hB : nameB s = false := by simp [nameB]; omega
   rw [hB]
   clear hB
   go_enter Tryz.func95, Tryz.ntmps95
   go_wp2_with (fail)
   go_ret
   exact ⟨rfl, Below.refl _ _⟩
 ·
  have h1i : ¬ (1 : Int) ≤ s.size := by omega
  have hB : nameB s = false := by simp [nameB]; omega
  rw [hB]
  clear hB
  go_enter Tryz.func95, Tryz.ntmps95
  go_wp2_with (fail)
  go_ret
  exact ⟨rfl, Below.refl _ _⟩
theorem tl_eq (a b : ByteArray) : (a.toList == b.toList) = decide (a = b) := by
 rw [Bool.eq_iff_iff, beq_iff_eq, decide_eq_true_eq]
 exact ⟨fun h => tl_inj h, fun h => by rw [h]⟩
theorem tl_nil {a : ByteArray} : a.toList = [] ↔ a = noText := by
 constructor
 ·
  intro h; exact tl_inj (h.trans (by rw [ByteArray.toList_eq]; rfl))
 ·
  rintro rfl; rw [ByteArray.toList_eq]; rfl
theorem tl_emp (a : ByteArray) : a.toList.isEmpty = decide (a = noText) := by
 rw [Bool.eq_iff_iff, List.isEmpty_iff, decide_eq_true_eq, tl_nil]
theorem isNaNs_any (a : ByteArray) (w : World) : Calls Tryz.prog 186 #[.string a] w fun e w' => e = .returned (.bool false) ∧ w' = w := by
 go_enter Tryz.func186, Tryz.ntmps186
 go_wp2
 go_ret
 exact ⟨by simp, rfl⟩
def cmpS (a b : ByteArray) : Int := if lessB a b then -1 else if a = b then 0 else 1
theorem cmpS_any (a b : ByteArray) (w : World) : Calls Tryz.prog 93 #[.string a, .string b] w fun e w' => e = .returned (.int .i64 (cmpS a b)) ∧ w' = w := by
 have hn := fun x W => isNaNs_any x W
 have hq := tl_eq a b
 by_cases h1 : lessB a b = true
 ·
  have hf : cmpS a b = -1 := by unfold cmpS; rw [if_pos h1]
  rw [hf]
  have h1' : Op.bytesLess a.toList b.toList = true := h1
  replace h1 := Lh h1; replace hf := Lh hf; replace hq := Lh hq
  go_enter Tryz.func93, Tryz.ntmps93
  go_wp2_with (fail)
  refine (hn _ _).mono ?_
  rintro e w1 ⟨rfl, rfl⟩
  go_wp2_with (fail)
  refine (hn _ _).mono ?_
  rintro e w1 ⟨rfl, rfl⟩
  go_wp2_with (fail)
  go_ret
  exact ⟨rfl, rfl⟩
 ·
  have h1' : Op.bytesLess a.toList b.toList = false := by simpa [lessB] using h1
  by_cases h2 : a = b
  ·
   have hf : cmpS a b = 0 := by unfold cmpS; rw [if_neg h1, if_pos h2]
   rw [hf]
   rw [decide_eq_true h2] at hq
   replace h1 := Lh h1; replace hf := Lh hf; replace h2 := Lh h2
   go_enter Tryz.func93, Tryz.ntmps93
   go_wp2_with (fail)
   refine (hn _ _).mono ?_
   rintro e w1 ⟨rfl, rfl⟩
   go_wp2_with (fail)
   refine (hn _ _).mono ?_
   rintro e w1 ⟨rfl, rfl⟩
   go_wp2_with (fail)
   go_ret
   exact ⟨rfl, rfl⟩
  ·
   have hf : cmpS a b = 1 := by unfold cmpS; rw [if_neg h1, if_neg h2]
   rw [hf]
   rw [decide_eq_false h2] at hq
   replace h1 := Lh h1; replace hf := Lh hf; replace h2 := Lh h2
   go_enter Tryz.func93, Tryz.ntmps93
   go_wp2_with (fail)
   refine (hn _ _).mono ?_
   rintro e w1 ⟨rfl, rfl⟩
   go_wp2_with (fail)
   refine (hn _ _).mono ?_
   rintro e w1 ⟨rfl, rfl⟩
   go_wp2_with (fail)
   go_ret
   exact ⟨rfl, rfl⟩
def cmpX (a b : ByteArray) : Int := if a = b then 0 else if a = noText then 1 else if b = noText then -1 else cmpS a b
theorem ends1_any (a b : ByteArray) (w : World) : Calls Tryz.prog 219 #[.string a, .string b] w fun e w' => e = .returned (.int .i64 (cmpX a b)) ∧ w' = w := by
 have hc := cmpS_any a b w
 have hq := tl_eq a b
 have ha := tl_emp a
 have hb := tl_emp b
 by_cases h1 : a = b
 ·
  have hf : cmpX a b = 0 := by unfold cmpX; rw [if_pos h1]
  rw [hf]
  rw [decide_eq_true h1] at hq
  replace h1 := Lh h1; replace hf := Lh hf; replace ha := Lh ha; replace hb := Lh hb
  go_enter Tryz.func219, Tryz.ntmps219
  go_wp2_with (fail)
  go_ret
  exact ⟨rfl, rfl⟩
 ·
  rw [decide_eq_false h1] at hq
  by_cases h2 : a = noText
  ·
   have hf : cmpX a b = 1 := by unfold cmpX; rw [if_neg h1, if_pos h2]
   rw [hf]
   rw [decide_eq_true h2] at ha
   have h6 : ([] == b.toList) = false := by rw [← hq, tl_nil.2 h2]
   have h3 := tl_nil.2 h2
   replace h1 := Lh h1; replace hf := Lh hf; replace h2 := Lh h2; replace hb := Lh hb
   go_enter Tryz.func219, Tryz.ntmps219
   go_wp2_with (fail)
   go_ret
   exact ⟨rfl, rfl⟩
  ·
   rw [decide_eq_false h2] at ha
   have h3 : ¬ a.toList = [] := fun q => h2 (tl_nil.1 q)
   by_cases h4 : b = noText
   ·
    have hf : cmpX a b = -1 := by unfold cmpX; rw [if_neg h1, if_neg h2, if_pos h4]
    rw [hf]
    rw [decide_eq_true h4] at hb
    have h5 := tl_nil.2 h4
    replace h1 := Lh h1; replace hf := Lh hf; replace h2 := Lh h2; replace h4 := Lh h4
    go_enter Tryz.func219, Tryz.ntmps219
    go_wp2_with (fail)
    go_ret
    exact ⟨rfl, rfl⟩
   ·
    have hf : cmpX a b = cmpS a b := by unfold cmpX; rw [if_neg h1, if_neg h2, if_neg h4]
    rw [hf]
    rw [decide_eq_false h4] at hb
    have h5 : ¬ b.toList = [] := fun q => h4 (tl_nil.1 q)
    replace h1 := Lh h1; replace hf := Lh hf; replace h2 := Lh h2; replace h4 := Lh h4
    go_enter Tryz.func219, Tryz.ntmps219
    go_wp2_with (fail)
    refine hc.mono ?_
    rintro e w1 ⟨rfl, rfl⟩
    go_wp2_with (fail)
    go_ret
    exact ⟨rfl, rfl⟩

theorem takeC_ok {g : Rg} (h : okG g = true) : takeC g = 0 := by unfold takeC; rw [if_pos h]
theorem takeC_bad {g : Rg} (h : okG g = false) : takeC g = 2 := by unfold takeC; rw [if_neg (by rw [h]; simp)]
set_option maxHeartbeats 8000000 in
theorem rng_any (a b : ByteArray) (w : World) (ha : a.size ≤ 140737488355328) (hb : b.size ≤ 140737488355328) : Calls Tryz.prog 86 #[.agg #[.string a, .string b]] w fun e w' => e = .returned (.int .i64 (takeC (a, b))) ∧ Below w.heap.size w w' := by
  have hna := fun W => name_any a ha W
  have hnb := fun W => name_any b hb W
  have kb := (Below.refl w.heap.size w).alloc (Nat.le_refl _) (.cells #[.string a, .string b] 32)
  obtain ⟨W0, hW0⟩ : ∃ W0, W0 = (w.alloc (.cells #[.string a, .string b] 32)).alloc (.cells #[.string a, .string b] 9) := ⟨_, rfl⟩
  have b0 : W0.heap[w.heap.size]? = some (.cells #[.string a, .string b] 32 (0, 0)) := by rw [hW0, hpOld _ (by simp)]; exact hpNew w _
  have b1 : W0.heap[w.heap.size + 1]? = some (.cells #[.string a, .string b] 9 (0, 0)) := by
    have := hpNew (w.alloc (.cells #[.string a, .string b] 32)) (.cells #[.string a, .string b] 9)
    rw [hW0]; simpa using this
  have k0 : Below w.heap.size w W0 := by rw [hW0]; exact kb.alloc kb.size _
  replace kb := Lh kb; replace b0 := Lh b0; replace b1 := Lh b1; replace k0 := Lh k0; replace hW0 := Lh hW0
  have hok : okG (a, b) = (endB a && endB b && (decide (b = noText) || lessB a b)) := rfl
  have hbad := Lh (fun q => takeC_bad (g := (a, b)) q)
  have hgood := Lh (fun q => takeC_ok (g := (a, b)) q)
  replace hok := Lh hok
  go_enter Tryz.func86, Tryz.ntmps86
  go_wp2_with (fail)
  go_loopw [11] (fun i wr => ∃ k : Nat, k ≤ 2 ∧ i = .int .i64 k ∧ (1 ≤ k → endB a = true) ∧ (2 ≤ k → endB b = true) ∧ Below W0.heap.size W0 wr) (fun i _ => 2 - (intOf i).toNat)
  case atStart => exact ⟨0, by omega, rfl, by omega, by omega, by rw [hW0.out]; exact Below.refl _ _⟩
  case round =>
    revert wr
    intro W1 hrel
    obtain ⟨k, hk, rfl, hea, heb, hbel⟩ := hrel
    have hh0 := (hbel.block _ (blkX b0.out)).trans b0.out
    have hh1 := (hbel.block _ (blkX b1.out)).trans b1.out
    have s0 := blkC hh1 0; have s1 := blkC hh1 1
    have r0 := blkC hh0 0; have r1 := blkC hh0 1
    simp only [List.getElem?_toArray, List.getElem?_cons_zero, List.getElem?_cons_succ] at s0 s1 r0 r1
    have hbb := Lh (k0.out.trans (hbel.mono k0.out.size))
    replace hh0 := Lh hh0; replace hh1 := Lh hh1; replace hbel := Lh hbel
    rcases (by omega : k = 0 ∨ k = 1 ∨ k = 2) with rfl | rfl | rfl
    · clear hea heb
      have he := tl_emp a
      by_cases h1 : a = noText
      · rw [decide_eq_true h1] at he
        have h3 := tl_nil.2 h1
        have hE : endB a = true := by unfold endB; rw [decide_eq_true h1]; rfl
        replace h1 := Lh h1; replace hE := Lh hE
        go_wp2_with (fail)
        exact ⟨⟨1, by omega, by go_num, fun _ => hE.out, by omega, hbel.out⟩, by simp [intOf]⟩
      · rw [decide_eq_false h1] at he
        have h3 : ¬ a.toList = [] := fun q => h1 (tl_nil.1 q)
        cases hN : nameB a with
        | true =>
          simp only [hN] at hna
          have hE : endB a = true := by unfold endB; rw [hN]; simp
          replace h1 := Lh h1; replace hE := Lh hE; replace hN := Lh hN
          go_wp2_with (fail)
          refine (hna _).mono ?_
          rintro e w2 ⟨rfl, b2⟩
          have hb2 := Lh (hbel.out.trans (b2.mono hbel.out.size))
          clear b2 s0 s1 r0 r1
          go_wp2_with (fail)
          exact ⟨⟨1, by omega, by go_num, fun _ => hE.out, by omega, hb2.out⟩, by simp [intOf]⟩
        | false =>
          simp only [hN] at hna
          have hf := Lh (hbad.out (by rw [hok.out]; simp [endB, h1, hN]))
          replace h1 := Lh h1; replace hN := Lh hN
          go_wp2_with (fail)
          refine (hna _).mono ?_
          rintro e w2 ⟨rfl, b2⟩
          have hb2 := Lh (hbb.out.trans (b2.mono hbb.out.size))
          clear b2 s0 s1 r0 r1
          go_wp2_with (fail)
          go_ret
          exact ⟨by rw [hf.out]; rfl, hb2.out⟩
    · have hea := Lh (hea (by omega))
      clear heb
      have he := tl_emp b
      by_cases h1 : b = noText
      · rw [decide_eq_true h1] at he
        have h3 := tl_nil.2 h1
        have hE : endB b = true := by unfold endB; rw [decide_eq_true h1]; rfl
        replace h1 := Lh h1; replace hE := Lh hE
        go_wp2_with (fail)
        exact ⟨⟨2, by omega, by go_num, fun _ => hea.out, fun _ => hE.out, hbel.out⟩, by simp [intOf]⟩
      · rw [decide_eq_false h1] at he
        have h3 : ¬ b.toList = [] := fun q => h1 (tl_nil.1 q)
        cases hN : nameB b with
        | true =>
          simp only [hN] at hnb
          have hE : endB b = true := by unfold endB; rw [hN]; simp
          replace h1 := Lh h1; replace hE := Lh hE; replace hN := Lh hN
          go_wp2_with (fail)
          refine (hnb _).mono ?_
          rintro e w2 ⟨rfl, b2⟩
          have hb2 := Lh (hbel.out.trans (b2.mono hbel.out.size))
          clear b2 s0 s1 r0 r1
          go_wp2_with (fail)
          exact ⟨⟨2, by omega, by go_num, fun _ => hea.out, fun _ => hE.out, hb2.out⟩, by simp [intOf]⟩
        | false =>
          simp only [hN] at hnb
          have hf := Lh (hbad.out (by rw [hok.out]; simp [endB, h1, hN]))
          replace h1 := Lh h1; replace hN := Lh hN
          go_wp2_with (fail)
          refine (hnb _).mono ?_
          rintro e w2 ⟨rfl, b2⟩
          have hb2 := Lh (hbb.out.trans (b2.mono hbb.out.size))
          clear b2 s0 s1 r0 r1
          go_wp2_with (fail)
          go_ret
          exact ⟨by rw [hf.out]; rfl, hb2.out⟩
    · have hea := hea (by omega)
      have heb := heb (by omega)
      have hq := tl_eq b a
      have he := tl_emp b
      by_cases h1 : b = noText
      · have hf := Lh (hgood.out (by rw [hok.out, hea, heb, decide_eq_true h1]; rfl))
        rw [decide_eq_true h1] at he
        have h3 := tl_nil.2 h1
        replace h1 := Lh h1; replace hq := Lh hq; replace hea := Lh hea; replace heb := Lh heb
        clear hna hnb
        go_wp2_with (fail)
        go_ret
        exact ⟨by rw [hf.out]; rfl, hbb.out⟩
      · rw [decide_eq_false h1] at he
        have h3 : ¬ b.toList = [] := fun q => h1 (tl_nil.1 q)
        have hln := less_not (a := a) (b := b)
        have hbq : Op.bytesLess b.toList a.toList = lessB b a := rfl
        by_cases h2 : lessB a b = true
        · have hf := Lh (hgood.out (by rw [hok.out, hea, heb, h2]; simp))
          rw [h2] at hln
          have hx : lessB b a = false ∧ ¬ a = b := by simpa using hln.symm
          rw [hx.1] at hbq
          rw [decide_eq_false (fun q => hx.2 q.symm)] at hq
          replace h1 := Lh h1; replace h2 := Lh h2; replace hea := Lh hea; replace heb := Lh heb; replace hln := Lh hln; replace hx := Lh hx
          clear hna hnb
          go_wp2_with (fail)
          go_ret
          exact ⟨by rw [hf.out]; rfl, hbb.out⟩
        · have h2' : lessB a b = false := by simpa using h2
          have hf := Lh (hbad.out (by rw [hok.out, h2', decide_eq_false h1]; simp))
          rw [h2'] at hln
          have hx : (lessB b a || decide (a = b)) = true := by
            cases hc : (lessB b a || decide (a = b)) with
            | true => rfl
            | false => rw [hc] at hln; cases hln
          have hxx : (Op.bytesLess b.toList a.toList || b.toList == a.toList) = true := by
            rw [hq, hbq, ← hx]; congr 1; exact decide_eq_decide.2 ⟨Eq.symm, Eq.symm⟩
          replace h1 := Lh h1; replace h2 := Lh h2; replace h2' := Lh h2'; replace hea := Lh hea; replace heb := Lh heb; replace hln := Lh hln; replace hx := Lh hx; replace hq := Lh hq; replace hbq := Lh hbq
          clear hna hnb
          go_wp2_with (fail)
          all_goals first
            | (go_ret
               exact ⟨by rw [hf.out]; rfl, hbb.out⟩)
            | (exfalso; simp_all)
theorem name_ne {k : ByteArray} (h : nameB k = true) : ¬ k = noText := by
 rintro rfl
 simp [nameB, noText] at h
 exact absurd h.1 (by decide)
theorem cmpX_neg {k b : ByteArray} (hk : nameB k = true) : decide (cmpX k b < 0) = (decide (b = noText) || lessB k b) := by
 have hne := name_ne hk
 unfold cmpX
 by_cases h1 : k = b
 ·
  subst h1
  rw [if_pos rfl, less_irr, decide_eq_false hne]; rfl
 ·
  rw [if_neg h1, if_neg hne]
  by_cases h2 : b = noText
  ·
   rw [if_pos h2, decide_eq_true h2]; rfl
  ·
   rw [if_neg h2, decide_eq_false h2, Bool.false_or]
   unfold cmpS
   cases h3 : lessB k b with
   | true => simp
   | false => rw [if_neg (by simp), if_neg h1]; rfl
theorem le_not (a k : ByteArray) : (Op.bytesLess a.toList k.toList || a.toList == k.toList) = !lessB k a := by
 have h := less_not (a := k) (b := a)
 rw [h, Bool.not_not, tl_eq]
 show (lessB a k || decide (a = k)) = _
 congr 1
 exact decide_eq_decide.2 ⟨Eq.symm, Eq.symm⟩
set_option maxHeartbeats 2000000 in
theorem ends_any (a b : ByteArray) (g d : Nat) (w : World) (hok : okG (a, b) = true) (ha : a.size ≤ 140737488355328) (hb : b.size ≤ 140737488355328) (hg : w.heap[g]? = some (.cells #[.string a, .string b] 32 (0, 0))) :
  Calls Tryz.prog 161 #[.slice (some ⟨g, 0, none⟩) 1 d] w fun e w' => e = .returned (.tuple #[.func (.func 219) #[] #[], .int .i64 0]) ∧ Below w.heap.size w w' := by
 have hr := fun W => rng_any a b W ha hb
 rw [takeC_ok hok] at hr
 replace hg := Lh hg; replace hok := Lh hok
 go_enter Tryz.func161, Tryz.ntmps161
 go_wp2_with (fail)
 go_loopw [9] (fun i wr => ∃ k : Nat, k ≤ 1 ∧ i = .int .i64 k ∧ Below w.heap.size w wr) (fun i _ => 1 - (intOf i).toNat)
 case atStart => exact ⟨0, by omega, rfl, Below.refl _ _⟩
 case round =>
  revert wr
  intro W1 hrel
  obtain ⟨k, hk, rfl, hbel⟩ := hrel
  rcases (by omega : k = 0 ∨ k = 1) with rfl | rfl
  ·
   have hh := (hbel.block _ (blkX hg.out)).trans hg.out
   have s0 := blkC hh 0; have s1 := blkC hh 1
   simp only [List.getElem?_toArray, List.getElem?_cons_zero, List.getElem?_cons_succ] at s0 s1
   have kb := Lh (hbel.alloc hbel.size (.cells #[.string a, .string b] 32))
   replace hh := Lh hh; replace hbel := Lh hbel
   go_wp2_with (fail)
   refine (hr _).mono ?_
   rintro e w2 ⟨rfl, b2⟩
   have hb2 := Lh (kb.out.trans (b2.mono kb.out.size))
   clear b2 s0 s1
   go_wp2_with (fail)
   exact ⟨⟨1, by omega, by go_num, hb2.out⟩, by simp [intOf]⟩
  ·
   replace hbel := Lh hbel
   go_wp2_with (fail)
   refine bodyPost_ret (results_tmp2 rfl _ _ _) rfl ?_
   exact ⟨rfl, hbel.out⟩
set_option maxHeartbeats 4000000 in
theorem has_any (a b key : ByteArray) (w : World) (hok : okG (a, b) = true) (hk : nameB key = true) (ha : a.size ≤ 140737488355328) (hb : b.size ≤ 140737488355328) (hks : key.size ≤ 140737488355328) :
  Calls Tryz.prog 58 #[.agg #[.string a, .string b], .string key] w fun e w' => e = .returned (.bool (inG (a, b) key)) ∧ Below w.heap.size w w' := by
 have hin : inG (a, b) key = (!lessB key a && (decide (b = noText) || lessB key b)) := rfl
 rw [← cmpX_neg hk] at hin
 have hle := le_not a key
 have hN := fun W => name_any key hks W
 simp only [hk] at hN
 have h1 := fun W => ends1_any key b W
 have kb := (Below.refl w.heap.size w).alloc (Nat.le_refl _) (.cells #[.string a, .string b] 32)
 obtain ⟨W0, hW0⟩ : ∃ W0, W0 = (w.alloc (.cells #[.string a, .string b] 32)).alloc (.cells #[.string a, .string b] 32) := ⟨_, rfl⟩
 have b0 : W0.heap[w.heap.size]? = some (.cells #[.string a, .string b] 32 (0, 0)) := by rw [hW0, hpOld _ (by simp)]; exact hpNew w _
 have b1 : W0.heap[w.heap.size + 1]? = some (.cells #[.string a, .string b] 32 (0, 0)) := by
  have := hpNew (w.alloc (.cells #[.string a, .string b] 32)) (.cells #[.string a, .string b] 32)
  rw [hW0]; simpa using this
 have k0 : Below w.heap.size w W0 := by rw [hW0]; exact kb.alloc kb.size _
 have he := ends_any a b (w.heap.size + 1) 1 W0 hok ha hb b1
 generalize inG (a, b) key = r at *
 generalize cmpX key b = z at *
 replace kb := Lh kb; replace b0 := Lh b0; replace b1 := Lh b1; replace k0 := Lh k0; replace hok := Lh hok; replace hk := Lh hk; replace hin := Lh hin
 go_enter Tryz.func58, Tryz.ntmps58
 go_wp2_with (fail)
 rw [← hW0]
 replace hW0 := Lh hW0
 refine he.mono ?_
 rintro e w1 ⟨rfl, c1⟩
 have hh0 := (c1.block _ (blkX b0.out)).trans b0.out
 have k1 := Lh (k0.out.trans (c1.mono k0.out.size))
 replace hh0 := Lh hh0
 clear c1 he
 cases hl : lessB key a with
 | true =>
  rw [hl] at hle
  have hf : Hid (r = false) := Lh (by rw [hin.out, hl]; rfl)
  replace hl := Lh hl
  go_wp2_with (fail)
  refine (hN _).mono ?_
  rintro e w2 ⟨rfl, c2⟩
  have hh2 := (c2.block _ (blkX hh0.out)).trans hh0.out
  have s0 := blkC hh2 0; have s1 := blkC hh2 1
  simp only [List.getElem?_toArray, List.getElem?_cons_zero, List.getElem?_cons_succ] at s0 s1
  have k2 := Lh (k1.out.trans (c2.mono k1.out.size))
  replace hh2 := Lh hh2
  clear c2
  go_wp2_with (fail)
  go_ret
  exact ⟨by rw [hf.out]; rfl, k2.out⟩
 | false =>
  rw [hl] at hle
  have hf : Hid (r = decide (z < 0)) := Lh (by rw [hin.out, hl]; rfl)
  replace hl := Lh hl
  go_wp2_with (fail)
  refine (hN _).mono ?_
  rintro e w2 ⟨rfl, c2⟩
  have hh2 := (c2.block _ (blkX hh0.out)).trans hh0.out
  have s0 := blkC hh2 0; have s1 := blkC hh2 1
  simp only [List.getElem?_toArray, List.getElem?_cons_zero, List.getElem?_cons_succ] at s0 s1
  have k2 := Lh (k1.out.trans (c2.mono k1.out.size))
  replace hh2 := Lh hh2
  clear c2
  go_wp2_with (fail)
  refine (h1 _).mono ?_
  rintro e w3 ⟨rfl, rfl⟩
  go_wp2_with (fail)
  go_ret
  exact ⟨by rw [hf.out]; rfl, k2.out⟩
end Go.Proofs.YtgnjnpddehdmcaaGreatDoor
