/- The chapter's example: plain. -/
import Derived.Test.YtmmiknlpndjdlaaGreatDoorShL
import Derived.Test.YtmmiknlpndjdlaaGreatDoorShM
import Derived.Test.YtmmiknlpndjdlaaGreatDoorOwn
import Derived.Test.YtmmiknlpndjdlaaGreatDoorPar
import Derived.Test.YtmmiknlpndjdlaaGreatDoorOut
namespace Go.Proofs.YtmmiknlpndjdlaaGreatDoor
open Go.RowKit Go.Shelf
set_option linter.unusedSimpArgs false
set_option linter.unusedVariables false
set_option linter.unusedSectionVars false
set_option maxRecDepth 10000
def OrdG (l : List Rg) : Prop := (l.map (·.1)).Pairwise fun a b => lessB a b = true
theorem OrdG.inj {l : List Rg} (h : OrdG l) : ∀ a ∈ l, ∀ b ∈ l, a.1 = b.1 → a = b := by
 induction l with
 | nil => intro a ha; cases ha
 | cons x l ih =>
  unfold OrdG at h ih
  rw [List.map_cons, List.pairwise_cons] at h
  have hx : ∀ b ∈ l, x.1 ≠ b.1 := fun b hb e => by
   have := h.1 b.1 (List.mem_map_of_mem hb)
   rw [e, less_irr] at this; cases this
  intro a ha b hb e
  rcases List.mem_cons.1 ha with ha | ha <;> rcases List.mem_cons.1 hb with hb | hb
  ·
   rw [ha, hb]
  ·
   rw [ha] at e; exact absurd e (hx b hb)
  ·
   rw [hb] at e; exact absurd e.symm (hx a ha)
  ·
   exact ih h.2 a ha b hb e
theorem stepG_sub (acc : List Rg) (x : Rg) : ((stepG acc x).map (·.1)).Sublist (acc.map (·.1) ++ [x.1]) := by
 rcases List.eq_nil_or_concat acc with rfl | ⟨a, y, rfl⟩
 ·
  rw [stepG_none]; exact List.Sublist.refl _
 ·
  rw [List.concat_eq_append, stepG_snoc]
  split
  ·
   simp only [List.map_append, List.map_cons, List.map_nil]
   exact List.sublist_append_left _ _
  ·
   simp only [List.map_append, List.map_cons, List.map_nil]
   exact List.Sublist.refl _
theorem foldG_sub : ∀ (l acc : List Rg), ((l.foldl stepG acc).map (·.1)).Sublist (acc.map (·.1) ++ l.map (·.1))
 | [], acc => by simp
 | x :: l, acc => by
  rw [List.foldl_cons, List.map_cons]
  refine (foldG_sub l (stepG acc x)).trans ?_
  have := (stepG_sub acc x).append (List.Sublist.refl (l.map (·.1)))
  simpa using this
theorem less_tot {a b : ByteArray} (h1 : lessB a b = false) (h2 : a ≠ b) : lessB b a = true := by
 rw [less_not, Bool.not_eq_false', Bool.or_eq_true] at h1
 rcases h1 with h | h
 ·
  exact h
 ·
  exact absurd (by simpa using h) h2
theorem takeG_ord {own : List Rg} {r : Rg} {x : Sh} (hx : x.own = own) (ho : OrdG own) (hok : ∀ g ∈ own, okG g = true) (hr : okG r = true) (hm : meetsB x r = false) : OrdG (takeG own r) := by
 have hno : ∀ a ∈ own, a.1 ≠ r.1 := fun a ha e => by
  unfold meetsB at hm
  rw [hx, List.any_eq_false] at hm
  exact hm a ha (meet_same (hok a ha) hr e)
 have hnd : ((own ++ [r]).map (·.1)).Nodup := by
  rw [List.map_append, List.nodup_append]
  refine ⟨?_, by simp, ?_⟩
  ·
   exact List.Pairwise.imp (fun {a b} h e => by rw [e, less_irr] at h; cases h) ho
  ·
   intro a ha b hb e
   obtain ⟨g, hg, rfl⟩ := List.mem_map.1 ha
   simp at hb
   exact hno g hg (e.trans hb)
 have hp : (sortG (own ++ [r])).Perm (own ++ [r]) := List.mergeSort_perm _ _
 have hnd2 : ((sortG (own ++ [r])).map (·.1)).Nodup := (hp.map (fun x : Rg => x.1)).nodup_iff.2 hnd
 have hs : OrdG (sortG (own ++ [r])) := by
  unfold OrdG
  have h1 : ((sortG (own ++ [r])).map (·.1)).Pairwise fun a b => lessB b a = false := List.pairwise_map.2 (sortG_pw _)
  exact (h1.and hnd2).imp fun {a b} q => less_tot q.1 fun e => q.2 e.symm
 unfold OrdG takeG mergeG
 have := foldG_sub (sortG (own ++ [r])) []
 simp only [List.map_nil, List.nil_append] at this
 exact List.Pairwise.sublist this hs
structure Owd where
 r : Rg
 ks : List ByteArray
 cs : List Cn
def filS (l : List Owd) : Sh := l.foldl (fun x y => ownX x y.r y.ks y.cs) (newS 1)
theorem filS_snoc (l : List Owd) (y : Owd) : filS (l ++ [y]) = ownX (filS l) y.r y.ks y.cs := by unfold filS; rw [List.foldl_append]; rfl
structure Fil (n : Nat) (x : Sh) : Prop where
 app : x.app = 0
 grp : x.group = 1
 mem : x.mem = []
 giv : x.giv = []
 tak : x.tak = []
 len : x.own.length ≤ n
 ord : OrdG x.own
theorem Fil.new : Fil 0 (newS 1) := ⟨rfl, rfl, rfl, rfl, rfl, Nat.le_refl _, List.Pairwise.nil⟩
theorem Fil.own {n : Nat} {x : Sh} (h : Fil n x) (hok : ∀ g ∈ x.own, okG g = true) (y : Owd) : Fil (n + 1) (ownX x y.r y.ks y.cs) := by
 unfold ownX
 split
 ·
  rename_i he
  have hf : fitsB y.r y.ks y.cs = true := by
   unfold ownE at he
   by_cases q : fitsB y.r y.ks y.cs = true
   ·
    exact q
   ·
    rw [if_neg q] at he; cases he
  have hm : meetsB x y.r = false := by
   unfold ownE at he
   rw [if_pos hf] at he
   by_cases q : meetsB x y.r = true
   ·
    rw [if_pos q] at he; cases he
   ·
    simpa using q
  refine ⟨h.app, h.grp, h.mem, h.giv, h.tak, ?_, takeG_ord rfl h.ord hok (fits_ok hf).2 hm⟩
  have := takeG_len x.own y.r
  have := h.len
  show (takeG x.own y.r).length ≤ n + 1
  omega
 ·
  exact ⟨h.app, h.grp, h.mem, h.giv, h.tak, Nat.le_succ_of_le h.len, h.ord⟩
def readR (x : Sh) (c : Cd) : Rp := (getE x c.key, (getV x c.key).1, noText)
def apR (x : Sh) (c : Cd) : Rp := if checkB c then (if c.k = 1 then effR (incS x) c else readR (incS x) c) else (2, 0, noText)
def apX (x : Sh) (c : Cd) : Sh := if checkB c then (if c.k = 1 then effX (incS x) c else incS x) else incS x
theorem keepX_own (x : Sh) (c : Cd) : (phX x c).own = x.own ∧ (phX x c).app = x.app ∧ (phX x c).group = x.group ∧ (phX x c).giv = x.giv ∧ (phX x c).tak = x.tak := by
 unfold phX undoX freeX cntX forbX
 repeat (first | split | exact ⟨rfl, rfl, rfl, rfl, rfl⟩)
theorem effX_own (x : Sh) (c : Cd) : (effX x c).own = x.own ∧ (effX x c).app = x.app ∧ (effX x c).group = x.group ∧ (effX x c).giv = x.giv ∧ (effX x c).tak = x.tak := by
 unfold effX
 repeat (first | split | exact ⟨rfl, rfl, rfl, rfl, rfl⟩)
 unfold keepX
 split
 ·
  exact keepX_own x c
 ·
  exact keepX_own x c
theorem apX_own (x : Sh) (c : Cd) : (apX x c).own = x.own ∧ (apX x c).app = (incS x).app ∧ (apX x c).group = x.group ∧ (apX x c).giv = x.giv ∧ (apX x c).tak = x.tak := by
 have hi : (incS x).own = x.own ∧ (incS x).app = (incS x).app ∧ (incS x).group = x.group ∧ (incS x).giv = x.giv ∧ (incS x).tak = x.tak := ⟨rfl, rfl, rfl, rfl, rfl⟩
 unfold apX
 split
 ·
  split
  ·
   exact effX_own (incS x) c
  ·
   exact hi
 ·
  exact hi
theorem putL_sub {z : En} {P : List En} (x : En) (h : z ∈ P) : z ∈ putL 2048 P x := by
 unfold putL; split
 ·
  exact mem_ins.2 (.inr h)
 ·
  exact h
theorem phX_len (x : Sh) (c : Cd) : (phX x c).mem.length ≤ x.mem.length + 1 := by
 have h0 : x.mem.length ≤ x.mem.length + 1 := by omega
 unfold phX undoX freeX cntX forbX
 split
 ·
  exact h0
 ·
  split
  ·
   split
   ·
    exact h0
   ·
    split
    ·
     exact putL_len _ _ _
    ·
     split <;> exact h0
  ·
   split <;> exact h0
theorem effX_len (x : Sh) (c : Cd) : (effX x c).mem.length ≤ x.mem.length + 2 := by
 unfold effX
 repeat (first | split | omega)
 unfold keepX
 have h1 := phX_len x c
 split
 ·
  have := putL_len 2048 (phX x c).mem ⟨c.e, c.key, phR x c⟩
  simp only; omega
 ·
  omega
theorem apX_len (x : Sh) (c : Cd) : (apX x c).mem.length ≤ x.mem.length + 2 := by
 have h0 : (incS x).mem.length ≤ x.mem.length + 2 := by show x.mem.length ≤ _; omega
 unfold apX
 split
 ·
  split
  ·
   exact effX_len (incS x) c
  ·
   exact h0
 ·
  exact h0
theorem phX_mem {x : Sh} {c : Cd} {z : En} (h : z ∈ x.mem) : z ∈ (phX x c).mem := by
 unfold phX undoX freeX cntX forbX
 repeat (first | split | exact h | exact putL_sub _ h)
theorem effX_mem {x : Sh} {c : Cd} {z : En} (h : z ∈ x.mem) : z ∈ (effX x c).mem := by
 unfold effX
 repeat (first | split | exact h)
 unfold keepX
 split
 ·
  exact putL_sub _ (phX_mem h)
 ·
  exact phX_mem h
theorem apX_mem {x : Sh} {c : Cd} {z : En} (h : z ∈ x.mem) : z ∈ (apX x c).mem := by
 have h0 : z ∈ (incS x).mem := h
 unfold apX
 split
 ·
  split
  ·
   exact effX_mem h0
  ·
   exact h0
 ·
  exact h0
theorem kind1 {c : Cd} (hc : checkB c = true) (hk : c.k = 1) : c.e.2.2 = 1 ∨ c.e.2.2 = 2 ∨ c.e.2.2 = 3 := by
 unfold checkB at hc
 rw [Bool.and_eq_true] at hc
 have h := hc.1
 rw [hk] at h
 have he : okE c.e = true := by simp [allF, kindF] at h; exact h.1
 unfold okE at he
 simp only [Bool.and_eq_true, decide_eq_true_eq] at he
 omega
theorem ap12_any {base : Nat} {p : Pl} {x : Sh} {v : World} (h : ShW base p x v) (ha : 0 ≤ x.app) (ha2 : x.app ≤ 1099511627776) (hn : x.own.length ≤ 100000) (hbv : base ≤ v.heap.size) (c : Cd) (hk : c.k = 1 ∨ c.k = 2) (hs : szCd c) (hd1 : -9223372036854775808 ≤ c.dl) (hd2 : c.dl ≤ 9223372036854775807) : Calls Tryz.prog 7 #[.pointer (some ⟨p.S, 0, none⟩), .agg (cdV c)] v fun e w' => ∃ p', e = .returned (rpV (apR x c)) ∧ ShTo base p p' (apX x c) v w' := by
 unfold apR apX
 have hki : inK c.k = true := by rcases hk with e | e <;> rw [e] <;> rfl
 cases hc : checkB c with
 | false =>
  simp only [Bool.false_eq_true, if_false]
  obtain ⟨g, hg⟩ : ∃ g, lookA doesL c.k = some g := by rcases hk with e | e <;> rw [e] <;> exact ⟨_, rfl⟩
  refine (apply_check h c ha ha2 (by omega) (by omega) hs hki hg hc).mono ?_
  rintro e w' ⟨rfl, ht⟩
  exact ⟨p, rfl, ht⟩
 | true =>
  simp only [if_true]
  rcases hk with hk | hk
  ·
   rw [if_pos hk, if_pos hk]
   refine apply_good h c ha ha2 (by omega) (by omega) hbv hs (g := 20) hki (by rw [hk]; rfl) (enters_of Tryz.func20 (by kernel_rfl) rfl) hc _ _ fun W hW hb => ?_
   refine (shEffect_any hW c hs.2 hd1 hd2 hb (by show x.own.length ≤ 1000000; omega) (kind1 hc hk)).mono ?_
   rintro e w' ⟨rfl, p', ht⟩
   exact ⟨p', rfl, ht⟩
  ·
   have hk1 : ¬ c.k = 1 := by omega
   rw [if_neg hk1, if_neg hk1]
   refine apply_good h c ha ha2 (by omega) (by omega) hbv hs (g := 21) hki (by rw [hk]; rfl) (enters_of Tryz.func21 (by kernel_rfl) rfl) hc _ _ fun W hW hb => ?_
   refine (shRead_any hW (by show x.own.length ≤ 1000000; omega) c hs.2).mono ?_
   rintro e w' ⟨rfl, hb'⟩
   exact ⟨p, rfl, ShTo.below hW hb'⟩
structure SimM (K : ByteArray) (P Q : List En) : Prop where
 mem : ∀ z, z ∈ Q ↔ z ∈ P ∧ z.k = K
 op : Ord P
 oq : Ord Q
def NoO (s t : Int) (K : ByteArray) (P : List En) : Prop := ∀ z ∈ P, z.e.1 = s → z.e.2.1 = t → z.k = K
theorem look_eq {P Q : List En} {e : Ef} (hp : Ord P) (hq : Ord Q) (h : ∀ z, z.e = e → (z ∈ P ↔ z ∈ Q)) : look P e = look Q e := by
 cases h1 : look P e with
 | some y =>
  have hm : y ∈ P := List.mem_of_find?_eq_some h1
  have he : y.e = e := by have := List.find?_some h1; simpa using this
  have := look_mem hq ((h y he).1 hm)
  rw [he] at this; exact this.symm
 | none =>
  cases h2 : look Q e with
  | none => rfl
  | some y =>
   have hm : y ∈ Q := List.mem_of_find?_eq_some h2
   have he : y.e = e := by have := List.find?_some h2; simpa using this
   have := look_mem hp ((h y he).2 hm)
   rw [he, h1] at this; cases this
theorem SimM.look {K : ByteArray} {P Q : List En} (h : SimM K P Q) {s t : Int} (hn : NoO s t K P) (ph : Int) : Go.Proofs.YtmmiknlpndjdlaaGreatDoor.look Q (s, t, ph) = Go.Proofs.YtmmiknlpndjdlaaGreatDoor.look P (s, t, ph) :=
 look_eq h.oq h.op fun z hz => ⟨fun q => ((h.mem z).1 q).1, fun q => (h.mem z).2 ⟨q, hn z q (by rw [hz]) (by rw [hz])⟩⟩
theorem ord_putK {P : List En} (ho : Ord P) (x : En) : Ord (putL 2048 P x) := by
 unfold putL
 split
 ·
  rename_i h; exact ord_ins ho (look_none (putC_zero h).2.1)
 ·
  exact ho
theorem mem_putL {P : List En} {x z : En} : z ∈ putL 2048 P x ↔ (putC 2048 P x = 0 ∧ z = x) ∨ z ∈ P := by
 unfold putL
 split
 ·
  rename_i h; rw [mem_ins]; simp [h]
 ·
  rename_i h; simp [h]
theorem putC_same {P Q : List En} {x : En} (hl : look Q x.e = look P x.e) (h1 : P.length < 2048) (h2 : Q.length < 2048) : putC 2048 Q x = putC 2048 P x := by
 unfold putC
 rw [hl, if_neg (by omega : ¬ (2048 : Int) ≤ (Q.length : Int)), if_neg (by omega : ¬ (2048 : Int) ≤ (P.length : Int))]
theorem SimM.put {K : ByteArray} {P Q : List En} (h : SimM K P Q) {s t ph : Int} (hn : NoO s t K P) (h1 : P.length < 2048) (h2 : Q.length < 2048) (r : Rp) :
  SimM K (putL 2048 P ⟨(s, t, ph), K, r⟩) (putL 2048 Q ⟨(s, t, ph), K, r⟩) ∧ NoO s t K (putL 2048 P ⟨(s, t, ph), K, r⟩) := by
 refine ⟨⟨fun z => ?_, ord_putK h.op _, ord_putK h.oq _⟩, fun z hz e1 e2 => ?_⟩
 ·
  rw [mem_putL, mem_putL, putC_same (h.look hn ph) h1 h2, h.mem z]
  constructor
  ·
   rintro (⟨q, rfl⟩ | ⟨q, k⟩)
   ·
    exact ⟨.inl ⟨q, rfl⟩, rfl⟩
   ·
    exact ⟨.inr q, k⟩
  ·
   rintro ⟨⟨q, rfl⟩ | q, k⟩
   ·
    exact .inl ⟨q, rfl⟩
   ·
    exact .inr ⟨q, k⟩
 ·
  rcases mem_putL.1 hz with ⟨_, rfl⟩ | q
  ·
   rfl
  ·
   exact hn z q e1 e2
theorem SimM.far {K k : ByteArray} {P Q : List En} (h : SimM K P Q) (hk : k ≠ K) (e : Ef) (r : Rp) : SimM K (putL 2048 P ⟨e, k, r⟩) Q := by
 refine ⟨fun z => ?_, ord_putK h.op _, h.oq⟩
 rw [h.mem z, mem_putL]
 constructor
 ·
  rintro ⟨q, e⟩; exact ⟨.inr q, e⟩
 ·
  rintro ⟨⟨q, rfl⟩ | q, e⟩
  ·
   exact absurd e hk
  ·
   exact ⟨q, e⟩
theorem stV_same {l m : Ct} {K : ByteArray} (h : lookA m K = lookA l K) : stV m K = stV l K ∧ stE m K = stE l K := by
 unfold stV stE hasA; rw [h]; exact ⟨rfl, rfl⟩
theorem stAp_same {l m : Ct} {K : ByteArray} (h : lookA m K = lookA l K) (ph d : Int) : stApE m K ph d = stApE l K ph d ∧ stApN m K ph d = stApN l K ph d ∧ lookA (stApL m K ph d) K = lookA (stApL l K ph d) K := by
 have hv := stV_same h
 have hE : stApE m K ph d = stApE l K ph d := by unfold stApE hasA; rw [h, hv.1]
 refine ⟨hE, ?_, ?_⟩
 ·
  unfold stApN; rw [hE, hv.1]
 ·
  unfold stApL
  rw [hE, hv.1]
  split
  ·
   rw [look_putA, look_putA, if_pos rfl, if_pos rfl]
  ·
   exact h
theorem stAp_far {l : Ct} {k K : ByteArray} (h : k ≠ K) (ph d : Int) : lookA (stApL l k ph d) K = lookA l K := by
 unfold stApL
 split
 ·
  rw [look_putA, if_neg fun e => h e.symm]
 ·
  rfl
structure Sim (K : ByteArray) (x y : Sh) : Prop where
 own : y.own = x.own
 cnt : lookA y.cnt K = lookA x.cnt K
 mem : SimM K x.mem y.mem
theorem Sim.refl {K : ByteArray} {x : Sh} (h : x.mem = []) : Sim K x x := ⟨rfl, rfl, by rw [h]; exact ⟨by simp, List.Pairwise.nil, List.Pairwise.nil⟩⟩
theorem Sim.owns {K : ByteArray} {x y : Sh} (h : Sim K x y) (k : ByteArray) : ownsB y k = ownsB x k := by unfold ownsB; rw [h.own]
theorem Sim.get {K : ByteArray} {x y : Sh} (h : Sim K x y) : getE y K = getE x K ∧ getV y K = getV x K := by
 unfold getE getV
 rw [h.owns, (stV_same h.cnt).1, (stV_same h.cnt).2]
 exact ⟨rfl, rfl⟩
section
variable {x y : Sh} {c : Cd}
theorem ph_sim (h : Sim c.key x y) (hn : NoO c.e.1 c.e.2.1 c.key x.mem) (h1 : x.mem.length < 2000) (h2 : y.mem.length < 2000) :
  phR y c = phR x c ∧ phK y c = phK x c ∧ Sim c.key (phX x c) (phX y c) ∧ NoO c.e.1 c.e.2.1 c.key (phX x c).mem := by
 have hh : ∀ ph, hasB y.mem (c.e.1, c.e.2.1, ph) = hasB x.mem (c.e.1, c.e.2.1, ph) := fun ph => by unfold hasB; rw [h.mem.look hn ph]
 have hr : ∀ ph, getR y.mem (c.e.1, c.e.2.1, ph) = getR x.mem (c.e.1, c.e.2.1, ph) := fun ph => by unfold getR; rw [h.mem.look hn ph]
 have hs := stAp_same h.cnt c.e.2.2 c.dl
 have hc : chgR y c = chgR x c := by unfold chgR; rw [hs.1, hs.2.1]
 have hX : Sim c.key (cntX x c) (cntX y c) := ⟨h.own, hs.2.2, h.mem⟩
 unfold phR phK phX
 by_cases p1 : c.e.2.2 = 1
 ·
  simp only [if_pos p1]; exact ⟨hc, by trivial, hX, hn⟩
 ·
  simp only [if_neg p1]
  by_cases p2 : c.e.2.2 = 2
  ·
   simp only [if_pos p2]
   have e1 : undoF y c = undoF x c := hh 3
   have e2 : fwH y c = fwH x c := hh 1
   have e3 : fwR y c = fwR x c := hr 1
   unfold undoR undoK undoX
   rw [e1, e2, e3, hc]
   by_cases q1 : undoF x c = true
   ·
    simp only [if_pos q1]; exact ⟨by trivial, by trivial, h, hn⟩
   ·
    simp only [if_neg q1]
    by_cases q2 : (!fwH x c) = true
    ·
     simp only [if_pos q2]
     have hp := h.mem.put (ph := 1) hn (by omega) (by omega) (9, 0, noText)
     exact ⟨by trivial, by trivial, ⟨h.own, h.cnt, hp.1⟩, hp.2⟩
    ·
     simp only [if_neg q2]
     by_cases q3 : (fwR x c).1 ≠ 0
     ·
      simp only [if_pos q3]; exact ⟨by trivial, by trivial, h, hn⟩
     ·
      simp only [if_neg q3]; exact ⟨by trivial, by trivial, hX, hn⟩
  ·
   simp only [if_neg p2]
   have e1 : freeOK y c = freeOK x c := by unfold freeOK; rw [hh 1, hh 2, hr 1]
   unfold freeR freeK freeX
   rw [e1, hc]
   by_cases q1 : freeOK x c = true
   ·
    simp only [if_pos q1]; exact ⟨by trivial, by trivial, hX, hn⟩
   ·
    simp only [if_neg q1]; exact ⟨by trivial, by trivial, h, hn⟩
theorem eff_sim (h : Sim c.key x y) (hn : NoO c.e.1 c.e.2.1 c.key x.mem) (h1 : x.mem.length < 2000) (h2 : y.mem.length < 2000) :
  effR y c = effR x c ∧ Sim c.key (effX x c) (effX y c) := by
 have hl : ∀ ph, look y.mem (c.e.1, c.e.2.1, ph) = look x.mem (c.e.1, c.e.2.1, ph) := fun ph => h.mem.look hn ph
 have hb : hasB y.mem c.e = hasB x.mem c.e := by unfold hasB; exact congrArg _ (hl c.e.2.2)
 have hg : getR y.mem c.e = getR x.mem c.e := by unfold getR; rw [show look y.mem c.e = look x.mem c.e from hl c.e.2.2]
 have ho : ownsB y c.key = ownsB x c.key := h.owns _
 have ha : anyConf y c = anyConf x c := by unfold anyConf confB hasB getK; rw [hl 1, hl 2, hl 3]
 have n1 : needR y c = needR x c := by unfold needR hasB; rw [hl 1]
 have n2 : needR x c ≤ 2 := by unfold needR; split <;> omega
 have r1 : ¬ 2048 - (x.mem.length : Int) < needR x c := by omega
 have r2 : ¬ 2048 - (y.mem.length : Int) < needR x c := by omega
 obtain ⟨p1, p2, p3, p4⟩ := ph_sim h hn h1 h2
 unfold effR effX
 rw [hb, hg, ho, ha, n1]
 by_cases q1 : hasB x.mem c.e = true
 ·
  simp only [if_pos q1]; exact ⟨by trivial, h⟩
 ·
  simp only [if_neg q1]
  by_cases q2 : (!ownsB x c.key) = true
  ·
   simp only [if_pos q2]; exact ⟨by trivial, h⟩
  ·
   simp only [if_neg q2]
   by_cases q3 : anyConf x c = true
   ·
    simp only [if_pos q3]; exact ⟨by trivial, h⟩
   ·
    simp only [if_neg q3, if_neg r1, if_neg r2]
    refine ⟨p1, ?_⟩
    unfold keepX
    rw [p2, p1]
    split
    ·
     have l1 := phX_len x c
     have l2 := phX_len y c
     have hp := p3.mem.put (ph := c.e.2.2) p4 (by omega) (by omega) (phR x c)
     exact ⟨p3.own, p3.cnt, hp.1⟩
    ·
     exact p3
theorem ph_far {K : ByteArray} (h : Sim K x y) (hk : c.key ≠ K) : Sim K (phX x c) y := by
 have hX : Sim K (cntX x c) y := ⟨h.own, by rw [h.cnt]; exact (stAp_far hk _ _).symm, h.mem⟩
 unfold phX undoX freeX
 split
 ·
  exact hX
 ·
  split
  ·
   split
   ·
    exact h
   ·
    split
    ·
     exact ⟨h.own, h.cnt, h.mem.far hk _ _⟩
    ·
     split
     ·
      exact h
     ·
      exact hX
  ·
   split
   ·
    exact hX
   ·
    exact h
theorem eff_far {K : ByteArray} (h : Sim K x y) (hk : c.key ≠ K) : Sim K (effX x c) y := by
 unfold effX
 split
 ·
  exact h
 ·
  split
  ·
   exact h
  ·
   split
   ·
    exact h
   ·
    split
    ·
     exact h
    ·
     have hp := ph_far (c := c) h hk
     unfold keepX
     split
     ·
      exact ⟨hp.own, hp.cnt, hp.mem.far hk _ _⟩
     ·
      exact hp
theorem ap_far {K : ByteArray} (h : Sim K x y) (hk : c.key ≠ K) : Sim K (apX x c) y := by
 have hi : Sim K (incS x) y := ⟨h.own, h.cnt, h.mem⟩
 unfold apX
 split
 ·
  split
  ·
   exact eff_far hi hk
  ·
   exact hi
 ·
  exact hi
theorem ap_sim (h : Sim c.key x y) (hn : NoO c.e.1 c.e.2.1 c.key (apX x c).mem) (h1 : x.mem.length < 2000) (h2 : y.mem.length < 2000) : apR y c = apR x c ∧ Sim c.key (apX x c) (apX y c) := by
 have hi : Sim c.key (incS x) (incS y) := ⟨h.own, h.cnt, h.mem⟩
 have hn' : NoO c.e.1 c.e.2.1 c.key (incS x).mem := fun z hz => hn z (apX_mem hz)
 have he := eff_sim hi hn' h1 h2
 unfold apR apX
 by_cases hc : checkB c = true
 ·
  simp only [if_pos hc]
  by_cases hk : c.k = 1
  ·
   simp only [if_pos hk]; exact he
  ·
   simp only [if_neg hk]
   refine ⟨?_, hi⟩
   unfold readR
   rw [hi.get.1, hi.get.2]
 ·
  simp only [if_neg hc]; exact ⟨by trivial, hi⟩
end
def otherB (P : List En) (c : Cd) : Bool := P.any fun z => decide (z.e.1 = c.e.1) && decide (z.e.2.1 = c.e.2.1) && !decide (z.k = c.key)
theorem noO_of {P : List En} {c : Cd} (h : otherB P c = false) : NoO c.e.1 c.e.2.1 c.key P := fun z hz e1 e2 => by
 unfold otherB at h
 rw [List.any_eq_false] at h
 have := h z hz
 simpa [e1, e2] using this
end Go.Proofs.YtmmiknlpndjdlaaGreatDoor

namespace Go.Proofs.YtmmiknlpndjdlaaGreatDoor
open Go.RowKit Go.Shelf
set_option linter.unusedSimpArgs false
set_option linter.unusedVariables false
set_option linter.unusedSectionVars false
set_option maxRecDepth 10000
def sC : ByteArray := ⟨#[99]⟩
def cdE (saga step ph dl : Int) : Cd := { k := 1, call := 0, saga := 0, e := (saga, step, ph), key := sC, dl := dl, mv := 0, r := (noText, noText), gr := 0, dn := noText, dr := 0, dd := 0, dA := none, dl' := 0, dc := 0, ie := (0, 0, 0), im := 0, ii := false, ig := 0, res := 0, dat := noText }
def cdO : Cd := { k := 3, call := 0, saga := 0, e := (0, 0, 0), key := noText, dl := 0, mv := 1, r := (⟨#[98]⟩, ⟨#[100]⟩), gr := 0, dn := noText, dr := 0, dd := 0, dA := none, dl' := 0, dc := 0, ie := (0, 0, 0), im := 0, ii := false, ig := 0, res := 0, dat := noText }
def w1 : Sh := { group := 1, app := 0, own := [(⟨#[97]⟩, ⟨#[109]⟩)], cnt := [(sC, (5, 0, 0, 0, 10))], mem := [], giv := [], tak := [] }
def rAM : Rg := (⟨#[97]⟩, ⟨#[109]⟩)
theorem own_e : ownE (newS 1) rAM [sC] [(5, 0, 0, 0, 10)] = 0 := by decide +kernel
theorem own_w1 : ownX (newS 1) rAM [sC] [(5, 0, 0, 0, 10)] = w1 := by
 unfold ownX
 rw [if_pos own_e]
 have h1 : takeG (newS 1).own rAM = [rAM] := by decide +kernel
 have h2 : putKs (newS 1).cnt [sC] [(5, 0, 0, 0, 10)] = [(sC, (5, 0, 0, 0, 10))] := by decide +kernel
 rw [h1, h2]; rfl
def cA : Cd := cdE 1 0 1 3
def cB : Cd := cdE 1 0 1 7
def cC : Cd := cdE 2 0 1 4
def cDD : Cd := cdE 2 0 2 4
def cG : Cd := cdE 3 1 2 2
def cH : Cd := cdE 3 1 1 2
def cI : Cd := cdE 1 0 3 3
def w2 : Sh := effX (incS w1) cA
def w3 : Sh := effX (incS w2) cB
def w4 : Sh := effX (incS w3) cC
def w5 : Sh := effX (incS w4) cDD
def w6 : Sh := effX (incS w5) cG
def w7 : Sh := effX (incS w6) cH
def w8 : Sh := effX (incS w7) cI
def w9 : Sh := outX (incS w8) cdO
def w10 : Sh := effX (incS w9) cA
theorem r_a : effR (incS w1) cA = (0, 8, noText) := by decide +kernel
theorem r_b : effR (incS w2) cB = (0, 8, noText) := by decide +kernel
theorem r_c : effR (incS w3) cC = (7, 0, noText) := by decide +kernel
theorem r_d : effR (incS w4) cDD = (0, 0, noText) := by decide +kernel
theorem r_g : effR (incS w5) cG = (0, 0, noText) := by decide +kernel
theorem r_h : effR (incS w6) cH = (9, 0, noText) := by decide +kernel
theorem r_i : effR (incS w7) cI = (0, 8, noText) := by decide +kernel
theorem r_o : (outR (incS w8) cdO).1 = 0 ∧ (outR (incS w8) cdO).2.1 = 0 ∧ ¬ (outR (incS w8) cdO).2.2 = noText := by decide +kernel
theorem r_j : effR (incS w9) cA = (16, 0, noText) := by decide +kernel
def wkB (x : Sh) : Bool := decide (0 ≤ x.app) && decide (x.app ≤ 1000) && decide (x.own.length ≤ 100) && decide (x.giv.length ≤ 100)
theorem wk1 : wkB w1 = true := by decide +kernel
theorem wk2 : wkB w2 = true := by decide +kernel
theorem wk3 : wkB w3 = true := by decide +kernel
theorem wk4 : wkB w4 = true := by decide +kernel
theorem wk5 : wkB w5 = true := by decide +kernel
theorem wk6 : wkB w6 = true := by decide +kernel
theorem wk7 : wkB w7 = true := by decide +kernel
theorem wk8 : wkB w8 = true := by decide +kernel
theorem wk9 : wkB w9 = true := by decide +kernel
theorem w10_app : w10.app = 9 := by decide +kernel
theorem w10_own : w10.own.length = 2 := by decide +kernel
def ckB (c : Cd) : Bool := checkB c && decide (c.k = 1) && (decide (c.e.2.2 = 1) || decide (c.e.2.2 = 2) || decide (c.e.2.2 = 3))
theorem ck_A : ckB cA = true := by decide +kernel
theorem ck_B : ckB cB = true := by decide +kernel
theorem ck_C : ckB cC = true := by decide +kernel
theorem ck_D : ckB cDD = true := by decide +kernel
theorem ck_G : ckB cG = true := by decide +kernel
theorem ck_H : ckB cH = true := by decide +kernel
theorem ck_I : ckB cI = true := by decide +kernel
theorem ck_O : checkB cdO = true := by decide +kernel
theorem apEff_any {base : Nat} {p : Pl} {x : Sh} {v : World} (h : ShW base p x v) (hx : wkB x = true) (c : Cd) (hc : ckB c = true) (hbv : base ≤ v.heap.size) (hs : szCd c) (hd1 : -9223372036854775808 ≤ c.dl) (hd2 : c.dl ≤ 9223372036854775807) : Calls Tryz.prog 7 #[.pointer (some ⟨p.S, 0, none⟩), .agg (cdV c)] v fun e w' => ∃ p', e = .returned (rpV (effR (incS x) c)) ∧ ShTo base p p' (effX (incS x) c) v w' := by
 unfold wkB at hx; unfold ckB at hc
 simp only [Bool.and_eq_true, Bool.or_eq_true, decide_eq_true_eq] at hx hc
 have hk : c.k = 1 := hc.1.2
 refine apply_good h c (by omega) (by omega) (by omega) (by omega) hbv hs (g := 20) (by rw [hk]; rfl) (by rw [hk]; rfl) (enters_of Tryz.func20 (by kernel_rfl) rfl) hc.1.1 _ _ fun W hW hb => ?_
 refine (shEffect_any hW c hs.2 hd1 hd2 hb (by show x.own.length ≤ 1000000; omega) (by rcases hc.2 with (q | q) | q <;> simp [q])).mono ?_
 rintro e w' ⟨rfl, p', ht⟩
 exact ⟨p', rfl, ht⟩
theorem apOut_any {base : Nat} {p : Pl} {x : Sh} {v : World} (h : ShW base p x v) (hx : wkB x = true) (c : Cd) (hc : checkB c = true) (hk : c.k = 3) (hbv : base ≤ v.heap.size) (hs : szCd c) (hd1 : -9223372036854775808 ≤ c.mv) (hd2 : c.mv ≤ 9223372036854775807) : Calls Tryz.prog 7 #[.pointer (some ⟨p.S, 0, none⟩), .agg (cdV c)] v fun e w' => ∃ p', e = .returned (rpV (outR (incS x) c)) ∧ ShTo base p p' (outX (incS x) c) v w' := by
 unfold wkB at hx
 simp only [Bool.and_eq_true, decide_eq_true_eq] at hx
 refine apply_good h c (by omega) (by omega) (by omega) (by omega) hbv hs (g := 22) (by rw [hk]; rfl) (by rw [hk]; rfl) (enters_of Tryz.func22 (by kernel_rfl) rfl) hc _ _ fun W hW hb => ?_
 refine (shOut_any hW hb (by show x.own.length ≤ 10000; omega) (by show x.giv.length ≤ 1000000; omega) c hs.1 hd1 hd2).mono ?_
 rintro e w' ⟨rfl, p', ht⟩
 exact ⟨p', rfl, ht⟩
theorem ShW.not_foot {base : Nat} {p : Pl} {x : Sh} {W : World} (h : ShW base p x W) {k : Nat} {cs : Array Value} {T : TypeId} {f : Nat × Nat} (hk : W.heap[k]? = some (.cells cs T f)) (h1 : T ≠ 73) (h2 : T ≠ 151) (h3 : T ≠ 148) (h4 : T ≠ 31) (h5 : T ≠ 161) : ¬ p.foot k := by
 intro q
 rcases q with q | q | q | q | q | q | q | q
 ·
  exact ne_cells hk h.blk h1 q
 ·
  exact ne_cells hk h.st.blk h2 q
 ·
  exact MapOf.ncell h.st.map (q ▸ hk)
 ·
  exact ne_cells hk h.mem.blk h3 q
 ·
  exact MapOf.ncell h.giv (q ▸ hk)
 ·
  exact MapOf.ncell h.tak (q ▸ hk)
 ·
  obtain ⟨ds, hd⟩ := row_cells h.own q
  exact ne_cells hk hd h4 rfl
 ·
  obtain ⟨ds, hd⟩ := row_cells h.mem.own q
  exact ne_cells hk hd h5 rfl
theorem ShTo.reply {base : Nat} {p p' : Pl} {x x' : Sh} {w w' : World} (ht : ShTo base p p' x' w w') (h : ShW base p x w) {k : Nat} {cs : Array Value} {f : Nat × Nat} (hk : w.heap[k]? = some (.cells cs 41 f)) : w'.heap[k]? = some (.cells cs 41 f) :=
 ht.blk hk (h.not_foot hk (by decide) (by decide) (by decide) (by decide) (by decide))
end Go.Proofs.YtmmiknlpndjdlaaGreatDoor
