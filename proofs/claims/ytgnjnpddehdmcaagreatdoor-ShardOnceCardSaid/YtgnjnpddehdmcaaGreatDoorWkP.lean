/- The chapter's example: plain. -/
import Derived.Test.YtgnjnpddehdmcaaGreatDoorPar
import Derived.Test.YtgnjnpddehdmcaaGreatDoorShort
import Derived.Test.YtgnjnpddehdmcaaGreatDoorOwn
import Derived.Test.YtgnjnpddehdmcaaGreatDoorOut
import Derived.Test.YtgnjnpddehdmcaaGreatDoorRange
import Derived.Test.YtgnjnpddehdmcaaGreatDoorShL
import Derived.Test.YtgnjnpddehdmcaaGreatDoorShM
import Derived.DeepKeys5
namespace Go.Proofs.YtgnjnpddehdmcaaGreatDoor
open Go.RowKit Go.Shelf
set_option linter.unusedSimpArgs false
set_option linter.unusedVariables false
set_option linter.unusedSectionVars false
set_option maxRecDepth 10000
def encGv (y : Int × ByteArray) : List Value := [.int .i64 y.1, .string y.2]
def encI1 (n : Int) : List Value := [.int .i64 n]
theorem encGv_len (y : Int × ByteArray) : (encGv y).length = 2 := rfl
theorem encI1_len (n : Int) : (encI1 n).length = 1 := rfl
theorem encGv_one (y : Int × ByteArray) : ∀ u ∈ encGv y, u.oneCell' = true := by intro u hu; simp [encGv] at hu; rcases hu with rfl | rfl <;> rfl
theorem elemGv : Elem Tryz.prog 46 95 2 24 := elem_of (z := .agg #[.int .i64 0, .string ⟨#[]⟩]) Tryz.underlying46 (by kernel_rfl) rfl (by omega)
theorem intS_pw {β : Type} {l : List (Int × β)} (ho : AOrd ltZ l) : (l.map fun x => x.1).Pairwise fun a b => a < b := by
 rw [List.pairwise_map]
 exact ho.imp fun {a b} h => by simpa [ltZ] using h
theorem intS_enc {β : Type} (l : List (Int × β)) : (l.map fun x => x.1).map encZ = flat encI1 (l.map (·.1)) := by
 induction l with
 | nil => rfl
 | cons x l ih =>
  simp only [List.map_cons, flat, List.flatMap_cons] at ih ⊢
  rw [ih]; rfl
def wfI (n : Int) : Prop := -9223372036854775808 ≤ n ∧ n ≤ 9223372036854775807
theorem wf_lit {n : Int} (h : wfI n) : (Lit.int .i64 n).wf = true := by
 unfold wfI at h
 simp [Lit.wf, IntKind.min, IntKind.max, IntKind.signed, IntKind.bits]; omega
theorem givKeys_any {bx M : Nat} {l : List (Int × ByteArray)} {w : World} (hbx : w.heap[bx]? = some (.cells #[.map (some M)] 85 (0, 0))) (h : MapI Tryz.prog 3 givE w M l) (ho : AOrd ltZ l) (hw : ∀ y ∈ l, wfI y.1) (hn : l.length ≤ 1000000) : Calls Tryz.prog 22 #[.func (.func 62) #[] #[.pointer (some ⟨bx, 0, none⟩)]] w fun e w' => ∃ A c, e = .returned (.slice A l.length c) ∧ w'.ownsRow w.heap.size 3 1 (.slice A l.length c) l.length (flat encI1 (l.map (·.1))) ∧ Below w.heap.size w w' := by
 obtain ⟨D, hD, hs, hp⟩ := MapI.keys ltZ_ok h ho undI2 (fun x hx => wf_lit (hw x hx))
 have hseq : SeqGives Fence.wide 2 Tryz.prog 62 #[.pointer (some ⟨bx, 0, none⟩)] encZ (fun ss => ss.Perm (intKeys D)) (Maps.size D) w :=
  AnyZI.keys_gives (ρ := Tryz.keysGiven_ren) { Tryz.keysGiven with } Fence.wide _ trivial rfl (by omega) bx M l.length D w (blkX hbx) (blkC hbx 0) hD
 refine (callsIn_wide.1 (AnyZI.sorted_in Tryz.sortedZI Fence.wide 5 trivial trivial trivial trivial rfl (by omega) (Tryz.sortsZI _) (enters_of Tryz.func60 (by kernel_rfl) rfl) 62 #[.pointer (some ⟨bx, 0, none⟩)] trivial (enters_of Tryz.func62 (by kernel_rfl) rfl) _ _ (by rw [hs]; unfold maxLen; omega) (by rw [hs]; omega) _ hseq)).mono ?_
 rintro e w' ⟨v, ss, rfl, hss, hown, _, hb⟩
 have hk := sort_keysI (intS_pw ho) hp hss
 have hl : ss.length = l.length := by rw [hss.length_eq, ← hp.length_eq, List.length_map]
 rw [hk, intS_enc, hl] at hown
 obtain ⟨A, c, rfl⟩ := row_form hown
 exact ⟨A, c, rfl, hown, hb⟩
theorem takKeys_any {bx M : Nat} {l : List (Int × Unit)} {w : World} (hbx : w.heap[bx]? = some (.cells #[.map (some M)] 86 (0, 0))) (h : MapI Tryz.prog 3 takE w M l) (ho : AOrd ltZ l) (hw : ∀ y ∈ l, wfI y.1) (hn : l.length ≤ 1000000) : Calls Tryz.prog 22 #[.func (.func 61) #[] #[.pointer (some ⟨bx, 0, none⟩)]] w fun e w' => ∃ A c, e = .returned (.slice A l.length c) ∧ w'.ownsRow w.heap.size 3 1 (.slice A l.length c) l.length (flat encI1 (l.map (·.1))) ∧ Below w.heap.size w w' := by
 obtain ⟨D, hD, hs, hp⟩ := MapI.keys ltZ_ok h ho undI2 (fun x hx => wf_lit (hw x hx))
 have hseq : SeqGives Fence.wide 2 Tryz.prog 61 #[.pointer (some ⟨bx, 0, none⟩)] encZ (fun ss => ss.Perm (intKeys D)) (Maps.size D) w :=
  AnyZI.keys_gives (ρ := Tryz.keysTaken_ren) { Tryz.keysTaken with } Fence.wide _ trivial rfl (by omega) bx M l.length D w (blkX hbx) (blkC hbx 0) hD
 refine (callsIn_wide.1 (AnyZI.sorted_in Tryz.sortedZI Fence.wide 5 trivial trivial trivial trivial rfl (by omega) (Tryz.sortsZI _) (enters_of Tryz.func60 (by kernel_rfl) rfl) 61 #[.pointer (some ⟨bx, 0, none⟩)] trivial (enters_of Tryz.func61 (by kernel_rfl) rfl) _ _ (by rw [hs]; unfold maxLen; omega) (by rw [hs]; omega) _ hseq)).mono ?_
 rintro e w' ⟨v, ss, rfl, hss, hown, _, hb⟩
 have hk := sort_keysI (intS_pw ho) hp hss
 have hl : ss.length = l.length := by rw [hss.length_eq, ← hp.length_eq, List.length_map]
 rw [hk, intS_enc, hl] at hown
 obtain ⟨A, c, rfl⟩ := row_form hown
 exact ⟨A, c, rfl, hown, hb⟩
structure StaR (v : World) (own : List Rg) (kv : Ct) (ds : List En) (gv : List (Int × ByteArray)) (tk : List Int) (AR : Option Addr) (cR : Nat) (A1 : Option Addr) (c1 : Nat) (A2 : Option Addr) (c2 : Nat) (A3 : Option Addr) (c3 : Nat) (AG : Option Addr) (cG : Nat) (AT : Option Addr) (cT : Nat) (W : World) : Prop where
 bel : Below v.heap.size v W
 oR : GOwn v.heap.size W AR own.length cR own
 o1 : W.ownsRow v.heap.size 9 1 (.slice A1 kv.length c1) kv.length (flat encS1 (kv.map (·.1)))
 o2 : W.ownsRow v.heap.size 58 5 (.slice A2 kv.length c2) kv.length (flat encC (kv.map (·.2)))
 o3 : W.ownsRow v.heap.size 101 7 (.slice A3 ds.length c3) ds.length (flat encM ds)
 oG : W.ownsRow v.heap.size 95 2 (.slice AG gv.length cG) gv.length (flat encGv gv)
 oT : W.ownsRow v.heap.size 3 1 (.slice AT tk.length cT) tk.length (flat encI1 tk)
section
variable {v W W' : World} {own : List Rg} {kv : Ct} {ds : List En} {gv : List (Int × ByteArray)} {tk : List Int} {AR A1 A2 A3 AG AT : Option Addr} {cR c1 c2 c3 cG cT : Nat}
theorem StaR.same (h : StaR v own kv ds gv tk AR cR A1 c1 A2 c2 A3 c3 AG cG AT cT W) (hb : Below v.heap.size v W') (hk : ∀ (k : Nat) (cs : Array Value) (t : TypeId), W.heap[k]? = some (.cells cs t (0, 0)) → t ≠ 49 → W'.heap[k]? = W.heap[k]?) : StaR v own kv ds gv tk AR cR A1 c1 A2 c2 A3 c3 AG cG AT cT W' :=
 ⟨hb, own_by h.oR fun _ _ _ q => hk _ _ _ q (by decide), own_by h.o1 fun _ _ _ q => hk _ _ _ q (by decide), own_by h.o2 fun _ _ _ q => hk _ _ _ q (by decide), own_by h.o3 fun _ _ _ q => hk _ _ _ q (by decide), own_by h.oG fun _ _ _ q => hk _ _ _ q (by decide), own_by h.oT fun _ _ _ q => hk _ _ _ q (by decide)⟩
theorem StaR.below (h : StaR v own kv ds gv tk AR cR A1 c1 A2 c2 A3 c3 AG cG AT cT W) (hb : Below W.heap.size W W') : StaR v own kv ds gv tk AR cR A1 c1 A2 c2 A3 c3 AG cG AT cT W' :=
 h.same (h.bel.trans (hb.mono h.bel.size)) fun _ _ _ q _ => hb.block _ (blkX q)
theorem StaR.app (h : StaR v own kv ds gv tk AR cR A1 c1 A2 c2 A3 c3 AG cG AT cT W) {y : Int × ByteArray} {lb : Nat} (hl : W.heap[lb]? = some (.cells #[.int .i64 y.1, .string y.2] 95 (0, 0))) (hn : gv.length ≤ 1000000) :
  ∃ A' c' V, (appSem #[46, 46] 46 #[.slice AG gv.length cG, .slice (some ⟨lb, 0, none⟩) 1 1]).run Tryz.prog W = .ok (.slice A' (gv.length + 1) c') V ∧ (∀ (k : Nat) (cs : Array Value) (t : TypeId) (f : Nat × Nat), W.heap[k]? = some (.cells cs t f) → t ≠ 95 → V.heap[k]? = W.heap[k]?) ∧ W.grownBy V (rowOf AG) ∧ StaR v own kv ds (gv ++ [y]) tk AR cR A1 c1 A2 c2 A3 c3 A' c' AT cT V := by
 obtain ⟨A', c', V, hrun, -, hown, hgr, hat⟩ := append_sl elemGv encGv_len encGv_one (ty := 46) (d := 1) h.oG h.bel.size (sl_one encGv_len (x := y) hl rfl) (by omega) (by omega)
 have hk : ∀ (k : Nat) (cs : Array Value) (t : TypeId) (f : Nat × Nat), W.heap[k]? = some (.cells cs t f) → t ≠ 95 → V.heap[k]? = W.heap[k]? := fun k cs t f q ht => hgr.block k (blkX q) fun e => by
  obtain ⟨ds, hd⟩ := row_cells h.oG e.symm
  exact ne_cells q hd ht rfl
 have hb := h.bel.trans (below_of_grown hgr h.bel.size fun g e => (own_row h.oG g e).1)
 refine ⟨A', c', V, hrun, hk, hgr, hb, own_by h.oR fun _ _ _ q => hk _ _ _ _ q (by decide), own_by h.o1 fun _ _ _ q => hk _ _ _ _ q (by decide), own_by h.o2 fun _ _ _ q => hk _ _ _ _ q (by decide), own_by h.o3 fun _ _ _ q => hk _ _ _ _ q (by decide), ?_, own_by h.oT fun _ _ _ q => hk _ _ _ _ q (by decide)⟩
 rw [List.length_append]; exact hown
end
end Go.Proofs.YtgnjnpddehdmcaaGreatDoor

namespace Go.Proofs.YtgnjnpddehdmcaaGreatDoor
open Go.RowKit Go.Shelf
set_option linter.unusedSimpArgs false
set_option linter.unusedVariables false
set_option linter.unusedSectionVars false
set_option maxRecDepth 10000
def OrdG (l : List Rg) : Prop := (l.map (·.1)).Pairwise fun a b => lessB a b = true
theorem OrdG.inj {l : List Rg} (h : OrdG l) : ∀ a ∈ l, ∀ b ∈ l, a.1 = b.1 → a = b := by
 induction l with
 | nil => intro a ha; cases ha
 | cons x l ih =>
  unfold OrdG at h ih
  rw [List.map_cons, List.pairwise_cons] at h
  have hx : ∀ b ∈ l, x.1 ≠ b.1 := fun b hb e => by
   have := h.1 b.1 (List.mem_map_of_mem hb)
   rw [e, less_irr] at this; cases this
  intro a ha b hb e
  rcases List.mem_cons.1 ha with ha | ha <;> rcases List.mem_cons.1 hb with hb | hb
  ·
   rw [ha, hb]
  ·
   rw [ha] at e; exact absurd e (hx b hb)
  ·
   rw [hb] at e; exact absurd e.symm (hx a ha)
  ·
   exact ih h.2 a ha b hb e
theorem stepG_sub (acc : List Rg) (x : Rg) : ((stepG acc x).map (·.1)).Sublist (acc.map (·.1) ++ [x.1]) := by
 rcases List.eq_nil_or_concat acc with rfl | ⟨a, y, rfl⟩
 ·
  rw [stepG_none]; exact List.Sublist.refl _
 ·
  rw [List.concat_eq_append, stepG_snoc]
  split
  ·
   simp only [List.map_append, List.map_cons, List.map_nil]
   exact List.sublist_append_left _ _
  ·
   simp only [List.map_append, List.map_cons, List.map_nil]
   exact List.Sublist.refl _
theorem foldG_sub : ∀ (l acc : List Rg), ((l.foldl stepG acc).map (·.1)).Sublist (acc.map (·.1) ++ l.map (·.1))
 | [], acc => by simp
 | x :: l, acc => by
  rw [List.foldl_cons, List.map_cons]
  refine (foldG_sub l (stepG acc x)).trans ?_
  have := (stepG_sub acc x).append (List.Sublist.refl (l.map (·.1)))
  simpa using this
theorem less_tot {a b : ByteArray} (h1 : lessB a b = false) (h2 : a ≠ b) : lessB b a = true := by
 rw [less_not, Bool.not_eq_false', Bool.or_eq_true] at h1
 rcases h1 with h | h
 ·
  exact h
 ·
  exact absurd (by simpa using h) h2
theorem takeG_ord {own : List Rg} {r : Rg} {x : Sh} (hx : x.own = own) (ho : OrdG own) (hok : ∀ g ∈ own, okG g = true) (hr : okG r = true) (hm : meetsB x r = false) : OrdG (takeG own r) := by
 have hno : ∀ a ∈ own, a.1 ≠ r.1 := fun a ha e => by
  unfold meetsB at hm
  rw [hx, List.any_eq_false] at hm
  exact hm a ha (meet_same (hok a ha) hr e)
 have hnd : ((own ++ [r]).map (·.1)).Nodup := by
  rw [List.map_append, List.nodup_append]
  refine ⟨?_, by simp, ?_⟩
  ·
   exact List.Pairwise.imp (fun {a b} h e => by rw [e, less_irr] at h; cases h) ho
  ·
   intro a ha b hb e
   obtain ⟨g, hg, rfl⟩ := List.mem_map.1 ha
   simp at hb
   exact hno g hg (e.trans hb)
 have hp : (sortG (own ++ [r])).Perm (own ++ [r]) := List.mergeSort_perm _ _
 have hnd2 : ((sortG (own ++ [r])).map (·.1)).Nodup := (hp.map (fun x : Rg => x.1)).nodup_iff.2 hnd
 have hs : OrdG (sortG (own ++ [r])) := by
  unfold OrdG
  have h1 : ((sortG (own ++ [r])).map (·.1)).Pairwise fun a b => lessB b a = false := List.pairwise_map.2 (sortG_pw _)
  exact (h1.and hnd2).imp fun {a b} q => less_tot q.1 fun e => q.2 e.symm
 unfold OrdG takeG mergeG
 have := foldG_sub (sortG (own ++ [r])) []
 simp only [List.map_nil, List.nil_append] at this
 exact List.Pairwise.sublist this hs
structure Owd where
 r : Rg
 ks : List ByteArray
 cs : List Cn
def filS (l : List Owd) : Sh := l.foldl (fun x y => ownX x y.r y.ks y.cs) (newS 1)
theorem filS_snoc (l : List Owd) (y : Owd) : filS (l ++ [y]) = ownX (filS l) y.r y.ks y.cs := by unfold filS; rw [List.foldl_append]; rfl
structure Fil (n : Nat) (x : Sh) : Prop where
 app : x.app = 0
 grp : x.group = 1
 mem : x.mem = []
 giv : x.giv = []
 tak : x.tak = []
 len : x.own.length ≤ n
 ord : OrdG x.own
theorem Fil.new : Fil 0 (newS 1) := ⟨rfl, rfl, rfl, rfl, rfl, Nat.le_refl _, List.Pairwise.nil⟩
theorem Fil.own {n : Nat} {x : Sh} (h : Fil n x) (hok : ∀ g ∈ x.own, okG g = true) (y : Owd) : Fil (n + 1) (ownX x y.r y.ks y.cs) := by
 unfold ownX
 split
 ·
  rename_i he
  have hf : fitsB y.r y.ks y.cs = true := by
   unfold ownE at he
   by_cases q : fitsB y.r y.ks y.cs = true
   ·
    exact q
   ·
    rw [if_neg q] at he; cases he
  have hm : meetsB x y.r = false := by
   unfold ownE at he
   rw [if_pos hf] at he
   by_cases q : meetsB x y.r = true
   ·
    rw [if_pos q] at he; cases he
   ·
    simpa using q
  refine ⟨h.app, h.grp, h.mem, h.giv, h.tak, ?_, takeG_ord rfl h.ord hok (fits_ok hf).2 hm⟩
  have := takeG_len x.own y.r
  have := h.len
  show (takeG x.own y.r).length ≤ n + 1
  omega
 ·
  exact ⟨h.app, h.grp, h.mem, h.giv, h.tak, Nat.le_succ_of_le h.len, h.ord⟩
def readR (x : Sh) (c : Cd) : Rp := (getE x c.key, (getV x c.key).1, noText)
def apR (x : Sh) (c : Cd) : Rp := if checkB c then (if c.k = 1 then effR (incS x) c else readR (incS x) c) else (2, 0, noText)
def apX (x : Sh) (c : Cd) : Sh := if checkB c then (if c.k = 1 then effX (incS x) c else incS x) else incS x
theorem keepX_own (x : Sh) (c : Cd) : (phX x c).own = x.own ∧ (phX x c).app = x.app ∧ (phX x c).group = x.group ∧ (phX x c).giv = x.giv ∧ (phX x c).tak = x.tak := by
 unfold phX undoX freeX cntX forbX
 repeat (first | split | exact ⟨rfl, rfl, rfl, rfl, rfl⟩)
theorem effX_own (x : Sh) (c : Cd) : (effX x c).own = x.own ∧ (effX x c).app = x.app ∧ (effX x c).group = x.group ∧ (effX x c).giv = x.giv ∧ (effX x c).tak = x.tak := by
 unfold effX
 repeat (first | split | exact ⟨rfl, rfl, rfl, rfl, rfl⟩)
 unfold keepX
 split
 ·
  exact keepX_own x c
 ·
  exact keepX_own x c
theorem apX_own (x : Sh) (c : Cd) : (apX x c).own = x.own ∧ (apX x c).app = (incS x).app ∧ (apX x c).group = x.group ∧ (apX x c).giv = x.giv ∧ (apX x c).tak = x.tak := by
 have hi : (incS x).own = x.own ∧ (incS x).app = (incS x).app ∧ (incS x).group = x.group ∧ (incS x).giv = x.giv ∧ (incS x).tak = x.tak := ⟨rfl, rfl, rfl, rfl, rfl⟩
 unfold apX
 split
 ·
  split
  ·
   exact effX_own (incS x) c
  ·
   exact hi
 ·
  exact hi
theorem phX_len (x : Sh) (c : Cd) : (phX x c).mem.length ≤ x.mem.length + 1 := by
 have h0 : x.mem.length ≤ x.mem.length + 1 := by omega
 unfold phX undoX freeX cntX forbX
 split
 ·
  exact h0
 ·
  split
  ·
   split
   ·
    exact h0
   ·
    split
    ·
     exact putL_len _ _ _
    ·
     split <;> exact h0
  ·
   split <;> exact h0
theorem effX_len (x : Sh) (c : Cd) : (effX x c).mem.length ≤ x.mem.length + 2 := by
 unfold effX
 repeat (first | split | omega)
 unfold keepX
 have h1 := phX_len x c
 split
 ·
  have := putL_len 2048 (phX x c).mem ⟨c.e, c.key, phR x c⟩
  simp only; omega
 ·
  omega
theorem apX_len (x : Sh) (c : Cd) : (apX x c).mem.length ≤ x.mem.length + 2 := by
 have h0 : (incS x).mem.length ≤ x.mem.length + 2 := by show x.mem.length ≤ _; omega
 unfold apX
 split
 ·
  split
  ·
   exact effX_len (incS x) c
  ·
   exact h0
 ·
  exact h0
theorem kind1 {c : Cd} (hc : checkB c = true) (hk : c.k = 1) : c.e.2.2 = 1 ∨ c.e.2.2 = 2 ∨ c.e.2.2 = 3 := by
 unfold checkB at hc
 rw [Bool.and_eq_true] at hc
 have h := hc.1
 rw [hk] at h
 have he : okE c.e = true := by simp [allF, kindF] at h; exact h.1
 unfold okE at he
 simp only [Bool.and_eq_true, decide_eq_true_eq] at he
 omega
theorem ap12_any {base : Nat} {p : Pl} {x : Sh} {v : World} (h : ShW base p x v) (ha : 0 ≤ x.app) (ha2 : x.app ≤ 1099511627776) (hn : x.own.length ≤ 100000) (hbv : base ≤ v.heap.size) (c : Cd) (hk : c.k = 1 ∨ c.k = 2) (hs : szCd c) (hd1 : -9223372036854775808 ≤ c.dl) (hd2 : c.dl ≤ 9223372036854775807) : Calls Tryz.prog 10 #[.pointer (some ⟨p.S, 0, none⟩), .agg (cdV c)] v fun e w' => ∃ p', e = .returned (rpV (apR x c)) ∧ ShTo base p p' (apX x c) v w' := by
 unfold apR apX
 have hki : inK c.k = true := by rcases hk with e | e <;> rw [e] <;> rfl
 cases hc : checkB c with
 | false =>
  simp only [Bool.false_eq_true, if_false]
  obtain ⟨g, hg⟩ : ∃ g, lookA doesL c.k = some g := by rcases hk with e | e <;> rw [e] <;> exact ⟨_, rfl⟩
  refine (apply_check h c ha ha2 (by omega) (by omega) hs hki hg hc).mono ?_
  rintro e w' ⟨rfl, ht⟩
  exact ⟨p, rfl, ht⟩
 | true =>
  simp only [if_true]
  rcases hk with hk | hk
  ·
   rw [if_pos hk, if_pos hk]
   refine apply_good h c ha ha2 (by omega) (by omega) hbv hs (g := 28) hki (by rw [hk]; rfl) (enters_of Tryz.func28 (by kernel_rfl) rfl) hc _ _ fun W hW hb => ?_
   refine (shEffect_any hW c hs.2 hd1 hd2 hb (by show x.own.length ≤ 1000000; omega) (kind1 hc hk)).mono ?_
   rintro e w' ⟨rfl, p', ht⟩
   exact ⟨p', rfl, ht⟩
  ·
   have hk1 : ¬ c.k = 1 := by omega
   rw [if_neg hk1, if_neg hk1]
   refine apply_good h c ha ha2 (by omega) (by omega) hbv hs (g := 29) hki (by rw [hk]; rfl) (enters_of Tryz.func29 (by kernel_rfl) rfl) hc _ _ fun W hW hb => ?_
   refine (shRead_any hW (by show x.own.length ≤ 1000000; omega) c hs.2).mono ?_
   rintro e w' ⟨rfl, hb'⟩
   exact ⟨p, rfl, ShTo.below hW hb'⟩
structure SimM (K : ByteArray) (P Q : List En) : Prop where
 mem : ∀ z, z ∈ Q ↔ z ∈ P ∧ z.k = K
 op : Ord P
 oq : Ord Q
def NoO (s t : Int) (K : ByteArray) (P : List En) : Prop := ∀ z ∈ P, z.e.1 = s → z.e.2.1 = t → z.k = K
theorem look_eq {P Q : List En} {e : Ef} (hp : Ord P) (hq : Ord Q) (h : ∀ z, z.e = e → (z ∈ P ↔ z ∈ Q)) : look P e = look Q e := by
 cases h1 : look P e with
 | some y =>
  have hm : y ∈ P := List.mem_of_find?_eq_some h1
  have he : y.e = e := by have := List.find?_some h1; simpa using this
  have := look_mem hq ((h y he).1 hm)
  rw [he] at this; exact this.symm
 | none =>
  cases h2 : look Q e with
  | none => rfl
  | some y =>
   have hm : y ∈ Q := List.mem_of_find?_eq_some h2
   have he : y.e = e := by have := List.find?_some h2; simpa using this
   have := look_mem hp ((h y he).2 hm)
   rw [he, h1] at this; cases this
theorem SimM.look {K : ByteArray} {P Q : List En} (h : SimM K P Q) {s t : Int} (hn : NoO s t K P) (ph : Int) : Go.Proofs.YtgnjnpddehdmcaaGreatDoor.look Q (s, t, ph) = Go.Proofs.YtgnjnpddehdmcaaGreatDoor.look P (s, t, ph) :=
 look_eq h.oq h.op fun z hz => ⟨fun q => ((h.mem z).1 q).1, fun q => (h.mem z).2 ⟨q, hn z q (by rw [hz]) (by rw [hz])⟩⟩
theorem ord_putK {P : List En} (ho : Ord P) (x : En) : Ord (putL 2048 P x) := by
 unfold putL
 split
 ·
  rename_i h; exact ord_ins ho (look_none (putC_zero h).2.1)
 ·
  exact ho
theorem mem_putL {P : List En} {x z : En} : z ∈ putL 2048 P x ↔ (putC 2048 P x = 0 ∧ z = x) ∨ z ∈ P := by
 unfold putL
 split
 ·
  rename_i h; rw [mem_ins]; simp [h]
 ·
  rename_i h; simp [h]
theorem putC_same {P Q : List En} {x : En} (hl : look Q x.e = look P x.e) (h1 : P.length < 2048) (h2 : Q.length < 2048) : putC 2048 Q x = putC 2048 P x := by
 unfold putC
 rw [hl, if_neg (by omega : ¬ (2048 : Int) ≤ (Q.length : Int)), if_neg (by omega : ¬ (2048 : Int) ≤ (P.length : Int))]
theorem SimM.put {K : ByteArray} {P Q : List En} (h : SimM K P Q) {s t ph : Int} (hn : NoO s t K P) (h1 : P.length < 2048) (h2 : Q.length < 2048) (r : Rp) :
  SimM K (putL 2048 P ⟨(s, t, ph), K, r⟩) (putL 2048 Q ⟨(s, t, ph), K, r⟩) ∧ NoO s t K (putL 2048 P ⟨(s, t, ph), K, r⟩) := by
 refine ⟨⟨fun z => ?_, ord_putK h.op _, ord_putK h.oq _⟩, fun z hz e1 e2 => ?_⟩
 ·
  rw [mem_putL, mem_putL, putC_same (h.look hn ph) h1 h2, h.mem z]
  constructor
  ·
   rintro (⟨q, rfl⟩ | ⟨q, k⟩)
   ·
    exact ⟨.inl ⟨q, rfl⟩, rfl⟩
   ·
    exact ⟨.inr q, k⟩
  ·
   rintro ⟨⟨q, rfl⟩ | q, k⟩
   ·
    exact .inl ⟨q, rfl⟩
   ·
    exact .inr ⟨q, k⟩
 ·
  rcases mem_putL.1 hz with ⟨_, rfl⟩ | q
  ·
   rfl
  ·
   exact hn z q e1 e2
structure Sim (K : ByteArray) (x y : Sh) : Prop where
 own : y.own = x.own
 cnt : lookA y.cnt K = lookA x.cnt K
 mem : SimM K x.mem y.mem
theorem Sim.refl {K : ByteArray} {x : Sh} (h : x.mem = []) : Sim K x x := ⟨rfl, rfl, by rw [h]; exact ⟨by simp, List.Pairwise.nil, List.Pairwise.nil⟩⟩
section
variable {x y : Sh} {c : Cd}
end
end Go.Proofs.YtgnjnpddehdmcaaGreatDoor

namespace Go.Proofs.YtgnjnpddehdmcaaGreatDoor
open Go.RowKit Go.Shelf
set_option linter.unusedSimpArgs false
set_option linter.unusedVariables false
set_option linter.unusedSectionVars false
set_option maxRecDepth 10000
theorem apC_e (c : Cn) (ph d : Int) : 0 ≤ (apC c ph d).e ∧ (apC c ph d).e ≤ 18 := by
 unfold apC Co.applyR Co.doR Co.undoR Co.freeR Co.CR.bad Co.CR.ok
 repeat (first | split | (simp only; omega))
theorem stApE_in (l : Ct) (s : ByteArray) (ph d : Int) : 0 ≤ stApE l s ph d ∧ stApE l s ph d ≤ 18 := by
 unfold stApE
 split
 ·
  exact apC_e _ _ _
 ·
  omega
theorem stApN_in (l : Ct) (s : ByteArray) (ph d : Int) : -1152921504606846976 ≤ stApN l s ph d ∧ stApN l s ph d ≤ 1152921504606846976 := by
 unfold stApN
 split
 ·
  rename_i h
  unfold stApE at h
  split at h
  ·
   have := apC_ok h
   unfold ckC crC at this
   simp only at this
   rw [Co.ckOK_iff] at this
   exact this.1
  ·
   cases h
 ·
  omega
theorem chgR_ok (x : Sh) (c : Cd) : okR (chgR x c) = true := by
 have h1 := stApE_in x.cnt c.key c.e.2.2 c.dl
 have h2 := stApN_in x.cnt c.key c.e.2.2 c.dl
 unfold okR chgR noText
 simp only [Bool.and_eq_true, decide_eq_true_eq]
 exact ⟨⟨⟨h1.1, h1.2⟩, h2.1, h2.2⟩, by decide⟩
theorem okR0 : okR (0, 0, noText) = true := by decide +kernel
theorem okR9 : okR (9, 0, noText) = true := by decide +kernel
def okK (c : Cd) : Prop := okE c.e = true ∧ nameB c.key = true
theorem okK_of {c : Cd} (hc : checkB c = true) (hk : c.k = 1) : okK c := by
 unfold checkB at hc
 rw [Bool.and_eq_true] at hc
 have h := hc.1
 rw [hk] at h
 simp [allF, kindF] at h
 exact ⟨h.1, h.2.1⟩
theorem okE_ph {c : Cd} (h : okE c.e = true) : okE (c.e.1, c.e.2.1, 1) = true := by
 rw [okE_iff] at *; simp only; omega
theorem has_ins {P : List En} {x : En} (ho : Ord P) (hx : hasB P x.e = false) : look (ins x P) x.e = some x := by
 have h2 : Ord (ins x P) := ord_ins ho (look_none hx)
 exact look_mem h2 (mem_ins.2 (.inl rfl))
theorem look_ins {P : List En} {x : En} (ho : Ord P) (hx : hasB P x.e = false) {e : Ef} (he : e ≠ x.e) : look (ins x P) e = look P e :=
 look_eq (ord_ins ho (look_none hx)) ho fun z hz => by
  rw [mem_ins]
  exact ⟨fun q => q.elim (fun q => absurd (by rw [← hz, q]) he) id, .inr⟩
theorem putC_ok {P : List En} {x : En} (h1 : okP x = true) (h2 : hasB P x.e = false) (h3 : P.length < 2048) : putC 2048 P x = 0 := by
 unfold hasB at h2
 unfold putC
 rw [if_pos h1, h2, if_neg (by simp), if_neg (by omega)]
theorem okP_of {c : Cd} (h : okK c) {ph : Int} (hp : okE (c.e.1, c.e.2.1, ph) = true) {r : Rp} (hr : okR r = true) : okP ⟨(c.e.1, c.e.2.1, ph), c.key, r⟩ = true := by
 unfold okP; rw [hp, h.2, hr]; rfl
theorem chg_none {x : Sh} {c : Cd} (h : ¬ (chgR x c).1 = 0) : cntX x c = x := by
 unfold cntX stApL
 unfold chgR at h
 rw [if_neg h]
structure Rem (x y : Sh) (c : Cd) (r : Rp) : Prop where
 has : look y.mem c.e = some ⟨c.e, c.key, r⟩
 old : ∀ e, e ≠ c.e → hasB x.mem e = true → look y.mem e = look x.mem e
 fw : y.cnt ≠ x.cnt → r.1 = 0 ∧ hasB y.mem (c.e.1, c.e.2.1, 1) = true ∧ (getR y.mem (c.e.1, c.e.2.1, 1)).1 = 0 ∧ (c.e.2.2 = 2 → hasB x.mem (c.e.1, c.e.2.1, 3) = false) ∧ (c.e.2.2 = 3 → hasB x.mem (c.e.1, c.e.2.1, 2) = false)
theorem has_of {P : List En} {e : Ef} {z : En} (h : look P e = some z) : hasB P e = true := by unfold hasB; rw [h]; rfl
theorem get_of {P : List En} {e : Ef} {z : En} (h : look P e = some z) : getR P e = z.r := by unfold getR; rw [h]
theorem e_eta (c : Cd) {ph : Int} (h : c.e.2.2 = ph) : c.e = (c.e.1, c.e.2.1, ph) := by
 subst h; rfl
theorem rem_put {x y : Sh} {c : Cd} {r : Rp} (hm : y.mem = x.mem) (ho : Ord x.mem) (hk : okK c) (hr : okR r = true) (hn : hasB x.mem c.e = false) (hl : x.mem.length < 2048)
  (hf : y.cnt ≠ x.cnt → r.1 = 0 ∧ (c.e.2.2 = 1 ∨ (c.e.2.2 ≠ 1 ∧ hasB x.mem (c.e.1, c.e.2.1, 1) = true ∧ (getR x.mem (c.e.1, c.e.2.1, 1)).1 = 0)) ∧ (c.e.2.2 = 2 → hasB x.mem (c.e.1, c.e.2.1, 3) = false) ∧ (c.e.2.2 = 3 → hasB x.mem (c.e.1, c.e.2.1, 2) = false)) :
  Rem x { y with mem := putL 2048 y.mem ⟨c.e, c.key, r⟩ } c r := by
 have hp : putC 2048 x.mem ⟨c.e, c.key, r⟩ = 0 := putC_ok (okP_of hk (ph := c.e.2.2) hk.1 hr) hn hl
 have hq : putL 2048 y.mem ⟨c.e, c.key, r⟩ = ins ⟨c.e, c.key, r⟩ x.mem := by rw [hm]; unfold putL; rw [if_pos hp]
 have h1 : look (ins ⟨c.e, c.key, r⟩ x.mem) c.e = some ⟨c.e, c.key, r⟩ := has_ins (x := ⟨c.e, c.key, r⟩) ho hn
 have h2 : ∀ e, e ≠ c.e → look (ins ⟨c.e, c.key, r⟩ x.mem) e = look x.mem e := fun e he => look_ins (x := ⟨c.e, c.key, r⟩) ho hn he
 refine ⟨by simp only; rw [hq]; exact h1, fun e he _ => by simp only; rw [hq]; exact h2 e he, fun hc => ?_⟩
 obtain ⟨f1, f2, f3, f4⟩ := hf hc
 simp only
 rw [hq]
 rcases f2 with q | ⟨q0, q1, q2⟩
 ·
  rw [← e_eta c q]
  exact ⟨f1, has_of h1, by rw [get_of h1]; exact f1, f3, f4⟩
 ·
  have hne : ((c.e.1, c.e.2.1, 1) : Ef) ≠ c.e := fun e => q0 (by rw [← e])
  refine ⟨f1, ?_, ?_, f3, f4⟩
  ·
   unfold hasB; rw [h2 _ hne]; exact q1
  ·
   unfold getR; rw [h2 _ hne]; exact q2
theorem eff_rem {x : Sh} {c : Cd} (ho : Ord x.mem) (hk : okK c) (hn : hasB x.mem c.e = false) : Rem x (effX x c) c (effR x c) ∨ (effX x c = x ∧ ¬ (effR x c).1 = 0) := by
 have hph : c.e.2.2 = 1 ∨ c.e.2.2 = 2 ∨ c.e.2.2 = 3 := by have := (okE_iff c.e).1 hk.1; omega
 unfold effR effX
 rw [hn]
 simp only [Bool.false_eq_true, if_false]
 by_cases q2 : (!ownsB x c.key) = true
 ·
  rw [if_pos q2, if_pos q2]; exact .inr ⟨rfl, by decide⟩
 rw [if_neg q2, if_neg q2]
 by_cases q3 : anyConf x c = true
 ·
  rw [if_pos q3, if_pos q3]; exact .inr ⟨rfl, by decide⟩
 rw [if_neg q3, if_neg q3]
 by_cases q4 : 2048 - (x.mem.length : Int) < needR x c
 ·
  rw [if_pos q4, if_pos q4]; exact .inr ⟨rfl, by decide⟩
 rw [if_neg q4, if_neg q4]
 have hl : x.mem.length < 2048 := by unfold needR at q4; split at q4 <;> omega
 have hchg : ∀ (f1 : c.e.2.2 = 1 ∨ (c.e.2.2 ≠ 1 ∧ hasB x.mem (c.e.1, c.e.2.1, 1) = true ∧ (getR x.mem (c.e.1, c.e.2.1, 1)).1 = 0)) (f2 : c.e.2.2 = 2 → hasB x.mem (c.e.1, c.e.2.1, 3) = false) (f3 : c.e.2.2 = 3 → hasB x.mem (c.e.1, c.e.2.1, 2) = false),
   Rem x { cntX x c with mem := putL 2048 (cntX x c).mem ⟨c.e, c.key, chgR x c⟩ } c (chgR x c) := fun f1 f2 f3 =>
  rem_put (y := cntX x c) rfl ho hk (chgR_ok x c) hn hl fun hc => ⟨by
   by_cases h0 : (chgR x c).1 = 0
   ·
    exact h0
   ·
    rw [chg_none h0] at hc; exact absurd rfl hc, f1, f2, f3⟩
 unfold keepX phR phK phX
 by_cases p1 : c.e.2.2 = 1
 ·
  simp only [if_pos p1, if_true]
  exact .inl (hchg (.inl p1) (fun e => by omega) (fun e => by omega))
 simp only [if_neg p1]
 by_cases p2 : c.e.2.2 = 2
 ·
  simp only [if_pos p2]
  unfold undoR undoK undoX
  by_cases u1 : undoF x c = true
  ·
   simp only [if_pos u1, Bool.false_eq_true, if_false]; exact .inr ⟨by trivial, by decide⟩
  simp only [if_neg u1]
  by_cases u2 : (!fwH x c) = true
  ·
   simp only [if_pos u2, if_true]
   left
   have hf0 : hasB x.mem (c.e.1, c.e.2.1, 1) = false := by unfold fwH at u2; simpa using u2
   have hl2 : x.mem.length + 2 ≤ 2048 := by
    unfold needR at q4; rw [hf0, p2] at q4; simp at q4; omega
   have hp1 : putC 2048 x.mem ⟨(c.e.1, c.e.2.1, 1), c.key, (9, 0, noText)⟩ = 0 := putC_ok (okP_of hk (okE_ph hk.1) okR9) hf0 (by omega)
   have hm1 : (forbX x c).mem = ins ⟨(c.e.1, c.e.2.1, 1), c.key, (9, 0, noText)⟩ x.mem := by unfold forbX putL; simp only; rw [if_pos hp1]
   have hne : c.e ≠ (c.e.1, c.e.2.1, 1) := fun e => p1 (by rw [e])
   have hf1 : Ord (forbX x c).mem := by rw [hm1]; exact ord_ins ho (look_none hf0)
   have hn1 : hasB (forbX x c).mem c.e = false := by unfold hasB; rw [hm1, look_ins (x := ⟨(c.e.1, c.e.2.1, 1), c.key, (9, 0, noText)⟩) ho hf0 hne]; exact hn
   have hl1 : (forbX x c).mem.length < 2048 := by rw [hm1, ins_len]; omega
   have hR := rem_put (x := forbX x c) (y := forbX x c) rfl hf1 hk okR0 hn1 hl1 (fun hc => absurd rfl hc)
   refine ⟨hR.has, fun e he h => ?_, fun hc => absurd rfl hc⟩
   have he1 : e ≠ (c.e.1, c.e.2.1, 1) := fun q => by rw [q, hf0] at h; cases h
   have hlk : look (forbX x c).mem e = look x.mem e := by rw [hm1]; exact look_ins (x := ⟨(c.e.1, c.e.2.1, 1), c.key, (9, 0, noText)⟩) ho hf0 he1
   rw [hR.old e he (by unfold hasB; rw [hlk]; exact h), hlk]
  simp only [if_neg u2]
  have hfw : hasB x.mem (c.e.1, c.e.2.1, 1) = true := by unfold fwH at u2; simpa using u2
  by_cases u3 : (fwR x c).1 ≠ 0
  ·
   simp only [if_pos u3, if_true]
   exact .inl (rem_put (y := x) rfl ho hk okR0 hn hl fun hc => absurd rfl hc)
  simp only [if_neg u3]
  have hg0 : (getR x.mem (c.e.1, c.e.2.1, 1)).1 = 0 := by unfold fwR at u3; simpa using u3
  by_cases u4 : (chgR x c).1 = 0
  ·
   have : ((chgR x c).1 == 0) = true := by simpa using u4
   simp only [this, if_true]
   exact .inl (hchg (.inr ⟨p1, hfw, hg0⟩) (fun _ => by unfold undoF at u1; simpa using u1) (fun e => by omega))
  ·
   have : ((chgR x c).1 == 0) = false := by simpa using u4
   simp only [this, Bool.false_eq_true, if_false]
   exact .inr ⟨chg_none u4, u4⟩
 simp only [if_neg p2]
 have p3 : c.e.2.2 = 3 := by omega
 unfold freeR freeK freeX
 by_cases f1 : freeOK x c = true
 ·
  simp only [if_pos f1]
  have hq := f1
  unfold freeOK at hq
  simp only [Bool.and_eq_true, decide_eq_true_eq, Bool.not_eq_true'] at hq
  by_cases u4 : (chgR x c).1 = 0
  ·
   have : ((chgR x c).1 == 0) = true := by simpa using u4
   simp only [this, if_true]
   exact .inl (hchg (.inr ⟨p1, hq.1.1, hq.1.2⟩) (fun e => by omega) (fun _ => hq.2))
  ·
   have : ((chgR x c).1 == 0) = false := by simpa using u4
   simp only [this, Bool.false_eq_true, if_false]
   exact .inr ⟨chg_none u4, u4⟩
 ·
  simp only [if_neg f1, Bool.false_eq_true, if_false]; exact .inr ⟨by trivial, by decide⟩
def Like (x y : Sh) : Prop := y = { x with app := y.app }
theorem Like.refl (x : Sh) : Like x x := rfl
theorem like_inc (x : Sh) : Like x (incS x) := rfl
theorem Like.trans {x y z : Sh} (h1 : Like x y) (h2 : Like y z) : Like x z := by
 unfold Like at *; rw [h2, h1]
theorem Like.symm {x y : Sh} (h : Like x y) : Like y x := by
 unfold Like at *; rw [h]
theorem Like.mem {x y : Sh} (h : Like x y) : y.mem = x.mem := by unfold Like at h; rw [h]
theorem Like.cnt {x y : Sh} (h : Like x y) : y.cnt = x.cnt := by unfold Like at h; rw [h]
theorem Like.own {x y : Sh} (h : Like x y) : y.own = x.own := by unfold Like at h; rw [h]
theorem phX_app (x : Sh) (a : Int) (c : Cd) : phX { x with app := a } c = { phX x c with app := a } := by
 unfold phX undoX freeX
 have e1 : undoF { x with app := a } c = undoF x c := rfl
 have e2 : fwH { x with app := a } c = fwH x c := rfl
 have e3 : fwR { x with app := a } c = fwR x c := rfl
 have e4 : freeOK { x with app := a } c = freeOK x c := rfl
 rw [e1, e2, e3, e4]
 repeat (first | split | rfl)
theorem keepX_app (x : Sh) (a : Int) (c : Cd) : keepX { x with app := a } c = { keepX x c with app := a } := by
 unfold keepX
 have e1 : phK { x with app := a } c = phK x c := rfl
 have e2 : phR { x with app := a } c = phR x c := rfl
 rw [e1, e2, phX_app]
 split <;> rfl
theorem effX_app (x : Sh) (a : Int) (c : Cd) : effX { x with app := a } c = { effX x c with app := a } := by
 unfold effX
 have e1 : hasB ({ x with app := a } : Sh).mem c.e = hasB x.mem c.e := rfl
 have e2 : ownsB { x with app := a } c.key = ownsB x c.key := rfl
 have e3 : anyConf { x with app := a } c = anyConf x c := rfl
 have e4 : needR { x with app := a } c = needR x c := rfl
 have e5 : ({ x with app := a } : Sh).mem.length = x.mem.length := rfl
 rw [e1, e2, e3, e4, e5, keepX_app]
 repeat (first | split | rfl)
theorem Like.apX {x y : Sh} {c : Cd} (h : Like x y) : Like (Go.Proofs.YtgnjnpddehdmcaaGreatDoor.apX x c) (Go.Proofs.YtgnjnpddehdmcaaGreatDoor.apX y c) := by
 unfold Like at h
 rw [h]
 unfold Go.Proofs.YtgnjnpddehdmcaaGreatDoor.apX
 split
 ·
  split
  ·
   have e : incS { x with app := y.app } = { incS x with app := min (y.app + 1) 1099511627776 } := rfl
   rw [e, effX_app (incS x) (min (y.app + 1) 1099511627776) c]; rfl
  ·
   rfl
 ·
  rfl
section
variable {x y : Sh} {c : Cd}
theorem Like.effR (h : Like x y) : Go.Proofs.YtgnjnpddehdmcaaGreatDoor.effR y c = Go.Proofs.YtgnjnpddehdmcaaGreatDoor.effR x c := by unfold Like at h; rw [h]; rfl
theorem Like.apR (h : Like x y) : Go.Proofs.YtgnjnpddehdmcaaGreatDoor.apR y c = Go.Proofs.YtgnjnpddehdmcaaGreatDoor.apR x c := by unfold Like at h; rw [h]; rfl
theorem ap_there (hc : checkB c = true) (hk : c.k = 1) (h : hasB x.mem c.e = true) : apR x c = getR x.mem c.e ∧ apX x c = incS x := by
 have h' : hasB (incS x).mem c.e = true := h
 unfold apR apX effR effX
 rw [if_pos hc, if_pos hc, if_pos hk, if_pos hk, if_pos h', if_pos h']
 exact ⟨rfl, rfl⟩
theorem ap_new (ho : Ord x.mem) (hc : checkB c = true) (hk : c.k = 1) (h : hasB x.mem c.e = false) : Rem x (apX x c) c (apR x c) ∨ (apX x c = incS x ∧ ¬ (apR x c).1 = 0) := by
 have := eff_rem (x := incS x) (c := c) ho (okK_of hc hk) h
 unfold apR apX
 rw [if_pos hc, if_pos hc, if_pos hk, if_pos hk]
 rcases this with q | q
 ·
  exact .inl ⟨q.has, q.old, q.fw⟩
 ·
  exact .inr q
theorem ap_again (ho : Ord x.mem) (hc : checkB c = true) (hk : c.k = 1) : apR (apX x c) c = apR x c ∧ Like (apX x c) (apX (apX x c) c) := by
 cases h : hasB x.mem c.e with
 | true =>
  have h1 := ap_there hc hk h
  have h2 := ap_there (x := incS x) hc hk h
  rw [h1.2, h2.2, h2.1, h1.1]
  exact ⟨rfl, like_inc _⟩
 | false =>
  rcases ap_new ho hc hk h with q | q
  ·
   have h2 := ap_there (x := apX x c) hc hk (has_of q.has)
   rw [h2.1, h2.2, get_of q.has]
   exact ⟨rfl, like_inc _⟩
  ·
   rw [q.1]
   have hh : apX (incS x) c = incS (incS x) := by
    rcases ap_new (x := incS x) ho hc hk h with r | r
    ·
     have e1 : Like (apX x c) (apX (incS x) c)  := (like_inc x).apX
     have := r.has
     rw [e1.mem, q.1] at this
     have h9 := has_of this
     rw [show (incS x).mem = x.mem from rfl, h] at h9; cases h9
    ·
     exact r.1
   rw [hh]
   exact ⟨(like_inc x).apR, like_inc _⟩
def ChI (x : Sh) (l : List Ef) : Prop := ∀ e ∈ l, hasB x.mem e = true ∧ hasB x.mem (e.1, e.2.1, 1) = true
theorem ap_old (ho : Ord x.mem) (hc : checkB c = true) (hk : c.k = 1) {e : Ef} (h : hasB x.mem e = true) : hasB (apX x c).mem e = true := by
 cases h0 : hasB x.mem c.e with
 | true => rw [(ap_there hc hk h0).2]; exact h
 | false =>
  rcases ap_new ho hc hk h0 with q | q
  ·
   have hne : e ≠ c.e := fun q => by rw [q, h0] at h; cases h
   unfold hasB; rw [q.old e hne h]; exact h
  ·
   rw [q.1]; exact h
theorem ChI.keep {l : List Ef} (h : ChI x l) (ho : Ord x.mem) (hc : checkB c = true) (hk : c.k = 1) : ChI (apX x c) l := fun e he => ⟨ap_old ho hc hk (h e he).1, ap_old ho hc hk (h e he).2⟩
theorem ch_new {l : List Ef} (h : ChI x l) (ho : Ord x.mem) (hc : checkB c = true) (hk : c.k = 1) (hch : (apX x c).cnt ≠ x.cnt) :
  (c.e ∉ l ∧ (c.e.1, c.e.2.1, 2) ∉ l ∧ (c.e.1, c.e.2.1, 3) ∉ l) ∧ (hasB (apX x c).mem (c.e.1, c.e.2.1, 1) = true ∧ (getR (apX x c).mem (c.e.1, c.e.2.1, 1)).1 = 0) ∧ ChI (apX x c) (l ++ [c.e]) := by
 have hph : c.e.2.2 = 1 ∨ c.e.2.2 = 2 ∨ c.e.2.2 = 3 := by have := (okE_iff c.e).1 (okK_of hc hk).1; omega
 cases h0 : hasB x.mem c.e with
 | true => rw [(ap_there hc hk h0).2] at hch; exact absurd rfl hch
 | false =>
  rcases ap_new ho hc hk h0 with q | q
  ·
   obtain ⟨f1, f2, f3, f4, f5⟩ := q.fw hch
   have n1 : c.e ∉ l := fun m => by rw [(h _ m).1] at h0; cases h0
   refine ⟨⟨n1, fun m => ?_, fun m => ?_⟩, ⟨f2, f3⟩, fun e he => ?_⟩
   ·
    rcases hph with p | p | p
    ·
     have := (h _ m).2
     simp only at this
     rw [← e_eta c p, h0] at this; cases this
    ·
     rw [← e_eta c p] at m; exact n1 m
    ·
     have := (h _ m).1; rw [f5 p] at this; cases this
   ·
    rcases hph with p | p | p
    ·
     have := (h _ m).2
     simp only at this
     rw [← e_eta c p, h0] at this; cases this
    ·
     have := (h _ m).1; rw [f4 p] at this; cases this
    ·
     rw [← e_eta c p] at m; exact n1 m
   ·
    rcases List.mem_append.1 he with he | he
    ·
     exact h.keep ho hc hk e he
    ·
     simp at he; subst he; exact ⟨has_of q.has, f2⟩
  ·
   rw [q.1] at hch; exact absurd rfl hch
end
end Go.Proofs.YtgnjnpddehdmcaaGreatDoor

namespace Go.Proofs.YtgnjnpddehdmcaaGreatDoor
open Go.RowKit Go.Shelf
open Go.Maps (Keyed)
set_option linter.unusedSimpArgs false
set_option linter.unusedVariables false
set_option linter.unusedSectionVars false
set_option maxRecDepth 10000
def efV (y : Ef) : Value := .agg #[.int .i64 y.1, .int .i64 y.2.1, .int .i64 y.2.2]
def efOf : Value → Option Ef
 | .agg ⟨[.int .i64 a, .int .i64 b, .int .i64 c]⟩ => some (a, b, c)
 | _ => none
theorem efOf_inv {v : Value} {y : Ef} (h : efOf v = some y) : v = efV y := by
 unfold efOf at h
 split at h
 ·
  cases h; rfl
 ·
  cases h
theorem efKeyed : Keyed Tryz.prog 30 := Keyed.of_law (deep_law_laid (by kernel_rfl) (m := 2) (by omega) (of_decide_eq_true (by kernel_rfl)) (by kernel_rfl) (by kernel_rfl))
theorem wf_small {n : Int} (h1 : -10000 ≤ n) (h2 : n ≤ 10000) : (Lit.int .i64 n).wf = true := by
 simp [Lit.wf, IntKind.min, IntKind.max, IntKind.signed, IntKind.bits]; omega
theorem lits_int (d : Nat) (n : Int) (h : (Lit.int .i64 n).wf = true) : Tryz.prog.keyLits (d + 1) 3 [.int .i64 n] = some [.int .i64 n] := by
 unfold Program.keyLits
 simp only [Tryz.underlying3]
 rw [if_pos ⟨trivial, h⟩]
theorem lits_ef (d : Nat) (y : Ef) (h1 : (Lit.int .i64 y.1).wf = true) (h2 : (Lit.int .i64 y.2.1).wf = true) (h3 : (Lit.int .i64 y.2.2).wf = true) : Tryz.prog.keyLits (d + 2) 30 [.int .i64 y.1, .int .i64 y.2.1, .int .i64 y.2.2] = some [.int .i64 y.1, .int .i64 y.2.1, .int .i64 y.2.2] := by
 unfold Program.keyLits
 simp only [Tryz.underlying30]
 rw [if_pos (by constructor <;> kernel_rfl)]
 have hc : Tryz.prog.cellsOf 3 = 1 := by kernel_rfl
 simp [hc, lits_int d _ h1, lits_int d _ h2, lits_int d _ h3]
theorem key_ef (y : Ef) (h : okE y = true) : ∃ l, keyOf Tryz.prog 30 (efV y) = some l := by
 have hb := (okE_iff y).1 h
 have hk : Tryz.prog.keyType 30 = true := by kernel_rfl
 have hf : (efV y).formed Tryz.prog 30 = true := by
  unfold efV Value.formed
  simp only [Tryz.underlying30]
  rw [show Tryz.prog.cellsOf 30 = 3 from by kernel_rfl]
  rfl
 have hl := lits_ef (Tryz.prog.types.size - 1) y (wf_small (by omega) (by omega)) (wf_small (by omega) (by omega)) (wf_small (by omega) (by omega))
 rw [show Tryz.prog.types.size - 1 + 2 = Tryz.prog.types.size + 1 from by kernel_rfl] at hl
 refine ⟨.string (keyBytes [.int .i64 y.1, .int .i64 y.2.1, .int .i64 y.2.2]), ?_⟩
 unfold keyOf
 simp only [Tryz.underlying30]
 rw [if_pos (by rw [hk, hf]; rfl), show (efV y).cells.toList = [.int .i64 y.1, .int .i64 y.2.1, .int .i64 y.2.2] from rfl, hl]
 rfl
def fC (l : List Ef) (key : Value) : Option Value := (efOf key).bind fun e => if e ∈ l then some (.bool true) else none
theorem fC_ef (l : List Ef) (y : Ef) : fC l (efV y) = if y ∈ l then some (.bool true) else none := rfl
abbrev CM (w : World) (b : Nat) (l : List Ef) : Prop := MapOf Tryz.prog 30 w b l.length (fC l)
theorem CM.new (w : World) : CM (w.alloc (.map #[] 0)) w.heap.size [] := (MapOf.made w _ _).congr fun key _ _ => by
 unfold fC; cases efOf key <;> rfl
theorem CM.look {w : World} {b : Nat} {l : List Ef} (h : CM w b l) (y : Ef) (hy : okE y = true) : (Instr.lookup 28 (.map (some b)) (.agg #[.int .i64 y.1, .int .i64 y.2.1, .int .i64 y.2.2]) false).run Tryz.prog w = .ok (.bool (decide (y ∈ l))) w := by
 obtain ⟨kl, hkey⟩ := key_ef y hy
 obtain ⟨D, h1, h2, h3⟩ := h
 obtain ⟨v, ps, hr, hv⟩ := h1.lookup efKeyed Tryz.underlying28 (zeroBool w) (zd := .held (.bool false)) (zp := []) rfl hkey
 obtain ⟨a, c⟩ := h3 _ _ hkey
 have hr' := hr
 unfold efV at hr'
 rw [hr']
 rw [fC_ef] at a c
 by_cases hm : y ∈ l
 ·
  rw [if_pos hm] at a c
  rw [c _ rfl] at hv
  simp only [heldE, Option.some.injEq, Prod.mk.injEq, DataW.held.injEq] at hv
  rw [hv.1, decide_eq_true hm]
 ·
  rw [if_neg hm] at a
  rw [Maps.atKey_of_not_has a] at hv
  simp only [heldE, Option.some.injEq, Prod.mk.injEq, DataW.held.injEq] at hv
  rw [hv.1, decide_eq_false hm]
theorem CM.put {w : World} {b : Nat} {l : List Ef} (h : CM w b l) (y : Ef) (hy : okE y = true) (hn : y ∉ l) (hl : l.length < 100000) : ∃ w', (Instr.mapUpdate 28 (.map (some b)) (.agg #[.int .i64 y.1, .int .i64 y.2.1, .int .i64 y.2.2]) (.bool true)).run Tryz.prog w = .ok () w' ∧ CM w' b (l ++ [y]) ∧ w.mapTurned w' b := by
 obtain ⟨kl, hkey⟩ := key_ef y hy
 obtain ⟨w', h1, h2, h3⟩ := MapOf.store (f' := fC (l ++ [y])) (val := .bool true) h efKeyed Tryz.underlying28 (by unfold maxLen; omega) hkey (by rw [fC_ef, if_neg hn]) (by rw [fC_ef, if_pos (by simp)]) fun x hx => by
  unfold fC
  cases he : efOf x with
  | none => rfl
  | some e =>
   have := efOf_inv he
   have hne : e ≠ y := fun q => hx (by rw [this, q])
   simp [hne]
 exact ⟨w', h1, by unfold CM; rw [List.length_append]; exact h2, h3⟩
end Go.Proofs.YtgnjnpddehdmcaaGreatDoor

namespace Go.Proofs.YtgnjnpddehdmcaaGreatDoor
open Go.RowKit Go.Shelf
set_option linter.unusedSimpArgs false
set_option linter.unusedVariables false
set_option linter.unusedSectionVars false
set_option maxRecDepth 10000
def sC : ByteArray := ⟨#[99]⟩
def cdE (saga step ph dl : Int) : Cd := { k := 1, call := 0, saga := 0, e := (saga, step, ph), key := sC, dl := dl, mv := 0, r := (noText, noText), gr := 0, dn := noText, dr := 0, dd := 0, dA := none, dl' := 0, dc := 0, ie := (0, 0, 0), im := 0, ii := false, ig := 0, res := 0, dat := noText }
def cdO : Cd := { k := 3, call := 0, saga := 0, e := (0, 0, 0), key := noText, dl := 0, mv := 1, r := (⟨#[98]⟩, ⟨#[100]⟩), gr := 0, dn := noText, dr := 0, dd := 0, dA := none, dl' := 0, dc := 0, ie := (0, 0, 0), im := 0, ii := false, ig := 0, res := 0, dat := noText }
def w1 : Sh := { group := 1, app := 0, own := [(⟨#[97]⟩, ⟨#[109]⟩)], cnt := [(sC, (5, 0, 0, 0, 10))], mem := [], giv := [], tak := [] }
def rAM : Rg := (⟨#[97]⟩, ⟨#[109]⟩)
theorem own_e : ownE (newS 1) rAM [sC] [(5, 0, 0, 0, 10)] = 0 := by decide +kernel
theorem own_w1 : ownX (newS 1) rAM [sC] [(5, 0, 0, 0, 10)] = w1 := by
 unfold ownX
 rw [if_pos own_e]
 have h1 : takeG (newS 1).own rAM = [rAM] := by decide +kernel
 have h2 : putKs (newS 1).cnt [sC] [(5, 0, 0, 0, 10)] = [(sC, (5, 0, 0, 0, 10))] := by decide +kernel
 rw [h1, h2]; rfl
def cA : Cd := cdE 1 0 1 3
def cB : Cd := cdE 1 0 1 7
def cC : Cd := cdE 2 0 1 4
def cDD : Cd := cdE 2 0 2 4
def cG : Cd := cdE 3 1 2 2
def cH : Cd := cdE 3 1 1 2
def cI : Cd := cdE 1 0 3 3
def w2 : Sh := effX (incS w1) cA
def w3 : Sh := effX (incS w2) cB
def w4 : Sh := effX (incS w3) cC
def w5 : Sh := effX (incS w4) cDD
def w6 : Sh := effX (incS w5) cG
def w7 : Sh := effX (incS w6) cH
def w8 : Sh := effX (incS w7) cI
def w9 : Sh := outX (incS w8) cdO
def w10 : Sh := effX (incS w9) cA
theorem r_a : effR (incS w1) cA = (0, 8, noText) := by decide +kernel
theorem r_b : effR (incS w2) cB = (0, 8, noText) := by decide +kernel
theorem r_c : effR (incS w3) cC = (7, 0, noText) := by decide +kernel
theorem r_d : effR (incS w4) cDD = (0, 0, noText) := by decide +kernel
theorem r_g : effR (incS w5) cG = (0, 0, noText) := by decide +kernel
theorem r_h : effR (incS w6) cH = (9, 0, noText) := by decide +kernel
theorem r_i : effR (incS w7) cI = (0, 8, noText) := by decide +kernel
theorem r_o : (outR (incS w8) cdO).1 = 0 ∧ (outR (incS w8) cdO).2.1 = 0 ∧ ¬ (outR (incS w8) cdO).2.2 = noText := by decide +kernel
theorem r_j : effR (incS w9) cA = (16, 0, noText) := by decide +kernel
def wkB (x : Sh) : Bool := decide (0 ≤ x.app) && decide (x.app ≤ 1000) && decide (x.own.length ≤ 100) && decide (x.giv.length ≤ 100)
theorem wk1 : wkB w1 = true := by decide +kernel
theorem wk2 : wkB w2 = true := by decide +kernel
theorem wk3 : wkB w3 = true := by decide +kernel
theorem wk4 : wkB w4 = true := by decide +kernel
theorem wk5 : wkB w5 = true := by decide +kernel
theorem wk6 : wkB w6 = true := by decide +kernel
theorem wk7 : wkB w7 = true := by decide +kernel
theorem wk8 : wkB w8 = true := by decide +kernel
theorem wk9 : wkB w9 = true := by decide +kernel
theorem w10_app : w10.app = 9 := by decide +kernel
theorem w10_own : w10.own.length = 2 := by decide +kernel
def ckB (c : Cd) : Bool := checkB c && decide (c.k = 1) && (decide (c.e.2.2 = 1) || decide (c.e.2.2 = 2) || decide (c.e.2.2 = 3))
theorem ck_A : ckB cA = true := by decide +kernel
theorem ck_B : ckB cB = true := by decide +kernel
theorem ck_C : ckB cC = true := by decide +kernel
theorem ck_D : ckB cDD = true := by decide +kernel
theorem ck_G : ckB cG = true := by decide +kernel
theorem ck_H : ckB cH = true := by decide +kernel
theorem ck_I : ckB cI = true := by decide +kernel
theorem ck_O : checkB cdO = true := by decide +kernel
theorem apEff_any {base : Nat} {p : Pl} {x : Sh} {v : World} (h : ShW base p x v) (hx : wkB x = true) (c : Cd) (hc : ckB c = true) (hbv : base ≤ v.heap.size) (hs : szCd c) (hd1 : -9223372036854775808 ≤ c.dl) (hd2 : c.dl ≤ 9223372036854775807) : Calls Tryz.prog 10 #[.pointer (some ⟨p.S, 0, none⟩), .agg (cdV c)] v fun e w' => ∃ p', e = .returned (rpV (effR (incS x) c)) ∧ ShTo base p p' (effX (incS x) c) v w' := by
 unfold wkB at hx; unfold ckB at hc
 simp only [Bool.and_eq_true, Bool.or_eq_true, decide_eq_true_eq] at hx hc
 have hk : c.k = 1 := hc.1.2
 refine apply_good h c (by omega) (by omega) (by omega) (by omega) hbv hs (g := 28) (by rw [hk]; rfl) (by rw [hk]; rfl) (enters_of Tryz.func28 (by kernel_rfl) rfl) hc.1.1 _ _ fun W hW hb => ?_
 refine (shEffect_any hW c hs.2 hd1 hd2 hb (by show x.own.length ≤ 1000000; omega) (by rcases hc.2 with (q | q) | q <;> simp [q])).mono ?_
 rintro e w' ⟨rfl, p', ht⟩
 exact ⟨p', rfl, ht⟩
theorem apOut_any {base : Nat} {p : Pl} {x : Sh} {v : World} (h : ShW base p x v) (hx : wkB x = true) (c : Cd) (hc : checkB c = true) (hk : c.k = 3) (hbv : base ≤ v.heap.size) (hs : szCd c) (hd1 : -9223372036854775808 ≤ c.mv) (hd2 : c.mv ≤ 9223372036854775807) : Calls Tryz.prog 10 #[.pointer (some ⟨p.S, 0, none⟩), .agg (cdV c)] v fun e w' => ∃ p', e = .returned (rpV (outR (incS x) c)) ∧ ShTo base p p' (outX (incS x) c) v w' := by
 unfold wkB at hx
 simp only [Bool.and_eq_true, decide_eq_true_eq] at hx
 refine apply_good h c (by omega) (by omega) (by omega) (by omega) hbv hs (g := 30) (by rw [hk]; rfl) (by rw [hk]; rfl) (enters_of Tryz.func30 (by kernel_rfl) rfl) hc _ _ fun W hW hb => ?_
 refine (shOut_any hW hb (by show x.own.length ≤ 10000; omega) (by show x.giv.length ≤ 1000000; omega) c hs.1 hd1 hd2).mono ?_
 rintro e w' ⟨rfl, p', ht⟩
 exact ⟨p', rfl, ht⟩
theorem ShW.not_foot {base : Nat} {p : Pl} {x : Sh} {W : World} (h : ShW base p x W) {k : Nat} {cs : Array Value} {T : TypeId} {f : Nat × Nat} (hk : W.heap[k]? = some (.cells cs T f)) (h1 : T ≠ 88) (h2 : T ≠ 156) (h3 : T ≠ 153) (h4 : T ≠ 32) (h5 : T ≠ 125) : ¬ p.foot k := by
 intro q
 rcases q with q | q | q | q | q | q | q | q
 ·
  exact ne_cells hk h.blk h1 q
 ·
  exact ne_cells hk h.st.blk h2 q
 ·
  exact MapOf.ncell h.st.map (q ▸ hk)
 ·
  exact ne_cells hk h.mem.blk h3 q
 ·
  exact MapOf.ncell h.giv (q ▸ hk)
 ·
  exact MapOf.ncell h.tak (q ▸ hk)
 ·
  obtain ⟨ds, hd⟩ := row_cells h.own q
  exact ne_cells hk hd h4 rfl
 ·
  obtain ⟨ds, hd⟩ := row_cells h.mem.own q
  exact ne_cells hk hd h5 rfl
theorem ShTo.reply {base : Nat} {p p' : Pl} {x x' : Sh} {w w' : World} (ht : ShTo base p p' x' w w') (h : ShW base p x w) {k : Nat} {cs : Array Value} {f : Nat × Nat} (hk : w.heap[k]? = some (.cells cs 52 f)) : w'.heap[k]? = some (.cells cs 52 f) :=
 ht.blk hk (h.not_foot hk (by decide) (by decide) (by decide) (by decide) (by decide))
end Go.Proofs.YtgnjnpddehdmcaaGreatDoor
