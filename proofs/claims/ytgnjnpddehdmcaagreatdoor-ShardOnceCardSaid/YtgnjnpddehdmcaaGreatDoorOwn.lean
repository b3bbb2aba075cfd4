/- Own. -/
import Derived.Test.YtgnjnpddehdmcaaGreatDoorPar
import Derived.Test.YtgnjnpddehdmcaaGreatDoorShort
import Derived.Test.YtgnjnpddehdmcaaGreatDoorChgW
import Derived.Test.YtgnjnpddehdmcaaGreatDoorCopy
import Derived.Test.YtgnjnpddehdmcaaGreatDoorGet
import Derived.Test.YtgnjnpddehdmcaaGreatDoorTk
import Derived.Test.YtgnjnpddehdmcaaGreatDoorStP
namespace Go.Proofs.YtgnjnpddehdmcaaGreatDoor
open Go.RowKit Go.Shelf
set_option linter.unusedSimpArgs false
set_option linter.unusedVariables false
set_option linter.unusedSectionVars false
set_option maxRecDepth 10000
theorem own_cap {W : World} {B n c sz : Nat} {e : TypeId} {A : Option Addr} {xs : List Value} (h : W.ownsRow B e sz (.slice A n c) n xs) : n ≤ c := by
 rcases h.2 with ⟨e1, e2⟩ | ⟨g, cap, cur, e1, _, _, hle, _⟩
 ·
  omega
 ·
  injection e1 with _ _ e1; omega
theorem ltZ_ok : LtOK ltZ where
 irr := fun a => by simp [ltZ]
 trn := fun {a b c} h1 h2 => by simp only [ltZ, decide_eq_true_eq] at *; omega
 tot := fun {a b} h1 h2 => by simp only [ltZ, decide_eq_false_iff_not, decide_eq_true_eq] at *; omega
def outD (x : Sh) (r : Rg) : ByteArray := ⟨(bPar (keysR x r) (doneR x r)).toArray⟩
def outI (x : Sh) (r : Rg) : Option Nat := x.own.findIdx? fun g => insB r g
def rmL (l : Ct) (ks : List ByteArray) : Ct := ks.foldl stRmL l
def cutL (x : Sh) (r : Rg) (i : Nat) : List Rg := x.own.take i ++ (wout (x.own[i]?.getD (noText, noText)) r ++ x.own.drop (i + 1))
def outR (x : Sh) (c : Cd) : Rp := match lookA x.giv c.mv with
 | some d => (0, 0, d)
 | none => match outI x c.r with
  | none => (16, 0, noText)
  | some _ => if 60000 < (outD x c.r).size then (11, 0, noText) else (0, 0, outD x c.r)
def outX (x : Sh) (c : Cd) : Sh := match lookA x.giv c.mv with
 | some _ => x
 | none => match outI x c.r with
  | none => x
  | some i => if 60000 < (outD x c.r).size then x else { x with own := cutL x c.r i, cnt := rmL x.cnt ((keysR x c.r).map (·.1)), mem := takeL c.r x.mem, giv := putA ltZ x.giv c.mv (outD x c.r) }
theorem rmL_next {l : Ct} {ks : List ByteArray} {j : Nat} {k : ByteArray} (h : ks[j]? = some k) : rmL l (ks.take (j + 1)) = stRmL (rmL l (ks.take j)) k := by
 unfold rmL
 rw [List.take_add_one, h, List.foldl_append]; rfl
theorem fitKv_of {y : ByteArray × Cn} (h1 : nameB y.1 = true) (h2 : ckC y.2 = true) : fitKv y := by
 obtain ⟨k, a, b, c, d, e⟩ := y
 refine ⟨?_, fun z hz => ?_⟩
 ·
  unfold nameB at h1
  simp only [Bool.and_eq_true, decide_eq_true_eq] at h1
  simp only; omega
 ·
  unfold ckC Co.ckOK at h2
  simp only [Bool.and_eq_true, decide_eq_true_eq, Co.inNum] at h2
  simp only [cnN, List.mem_cons, List.not_mem_nil, or_false] at hz
  unfold I64
  rcases hz with rfl | rfl | rfl | rfl | rfl <;> omega
theorem fitEn_of {y : En} (h : okP y = true) : fitEn y := by
 unfold okP okR okE nameB at h
 simp only [Bool.and_eq_true, decide_eq_true_eq] at h
 refine ⟨fun a ha => ?_, by omega, by unfold U63; omega, by unfold I64; omega, by omega⟩
 simp only [efN, List.mem_cons, List.not_mem_nil, or_false] at ha
 unfold U63
 rcases ha with rfl | rfl | rfl <;> omega
theorem wout_ok {a b : Rg} (ha : okG a = true) (hb : okG b = true) : ∀ g ∈ wout a b, okG g = true := by
 intro g hg
 unfold wout at hg
 rw [ha, hb] at hg
 simp only [Bool.and_self, if_true, List.mem_append] at hg
 have ha' := ha
 unfold okG at ha hb
 simp only [Bool.and_eq_true, Bool.or_eq_true, decide_eq_true_eq] at ha hb
 rcases hg with hg | hg
 ·
  unfold woL at hg
  split at hg
  ·
   rename_i hl
   simp only [List.mem_singleton] at hg
   subst hg
   split
   ·
    exact ha'
   ·
    unfold okG
    simp only [Bool.and_eq_true, Bool.or_eq_true, decide_eq_true_eq]
    exact ⟨⟨ha.1.1, hb.1.1⟩, .inr hl⟩
  ·
   cases hg
 ·
  unfold woR at hg
  split at hg
  ·
   rename_i hl
   simp only [List.mem_singleton] at hg
   subst hg
   unfold okG
   simp only [Bool.and_eq_true, Bool.or_eq_true, decide_eq_true_eq]
   unfold maxB
   split
   ·
    refine ⟨⟨hb.1.2, ha.1.2⟩, ?_⟩
    unfold cmpX at hl
    split at hl
    ·
     omega
    ·
     split at hl
     ·
      omega
     ·
      split at hl
      ·
       rename_i h1 h2 h3; exact .inl h3
      ·
       rename_i h1 h2 h3
       unfold cmpS at hl
       cases h4 : lessB b.2 a.2 with
       | true => exact .inr rfl
       | false =>
        rw [h4] at hl
        simp only [Bool.false_eq_true, if_false] at hl
        rw [if_neg h1] at hl; omega
   ·
    exact ⟨⟨ha.1.1, ha.1.2⟩, ha.2⟩
  ·
   cases hg
set_option maxHeartbeats 8000000 in
theorem out1_any (c : Cd) (g1 g2 : ByteArray) (cb : Nat) (W : World) (hb : W.heap[cb]? = some (.cells (cdV c) 40 (0, 0))) (hc : szG c.r) (hg : szG (g1, g2)) : Calls Tryz.prog 73 #[.agg #[.string g1, .string g2], .pointer (some ⟨cb, 0, none⟩)] W fun e W' => e = .returned (.bool (insB c.r (g1, g2))) ∧ Below W.heap.size W W' := by
 obtain ⟨W1, hW1⟩ : ∃ W1, W1 = W.alloc (.cells #[.string g1, .string g2] 32) := ⟨_, rfl⟩
 have k1 : Below W.heap.size W W1 := by rw [hW1]; exact (Below.refl _ W).alloc (Nat.le_refl _) _
 have b1 : W1.heap[W.heap.size]? = some (.cells #[.string g1, .string g2] 32 (0, 0)) := by rw [hW1]; exact hpNew _ _
 have q1 := (k1.block _ (blkX hb)).trans hb
 have t9 : W1.cell? ⟨cb, 9, none⟩ = some (.string c.r.1) := blkC q1 9
 have t10 : W1.cell? ⟨cb, 10, none⟩ = some (.string c.r.2) := blkC q1 10
 have tx := blkX q1
 have s0 := blkC b1 0; have s1 := blkC b1 1; have sx := blkX b1
 simp only [List.getElem?_toArray, List.getElem?_cons_zero, List.getElem?_cons_succ] at s0 s1
 obtain ⟨⟨r1, r2⟩, hr⟩ : ∃ r, r = c.r := ⟨_, rfl⟩
 rw [← hr] at hc t9 t10 ⊢
 have hin := inside_any r1 r2 g1 g2 W1 hc hg
 simp only at t9 t10
 replace k1 := Lh k1; replace b1 := Lh b1; replace q1 := Lh q1; replace hr := Lh hr; replace hW1 := Lh hW1
 rw [hW1.out] at t9 t10 tx s0 s1 sx
 generalize insB (r1, r2) (g1, g2) = ib at *
 go_enter Tryz.func73, Tryz.ntmps73
 go_wp2_with (fail)
 rw [← hW1.out]
 refine hin.mono ?_
 rintro e W2 ⟨z, rfl, hz, b2⟩
 have k2 := Lh (k1.out.trans (b2.mono k1.out.size))
 clear b2 hin
 cases ib with
 | false =>
  clear hz
  go_wp2_with (fail)
  all_goals (go_ret; exact ⟨rfl, k2.out⟩)
 | true =>
  obtain rfl := hz rfl
  clear hz
  go_wp2_with (fail)
  all_goals (go_ret; exact ⟨rfl, k2.out⟩)
theorem ord_putL {size : Int} {P : List En} {x : En} (h : Ord P) : Ord (putL size P x) := by
 unfold putL
 by_cases hc : putC size P x = 0
 ·
  rw [if_pos hc]
  exact ord_ins h (look_none (putC_zero hc).2.1)
 ·
  rw [if_neg hc]; exact h
theorem ok_putL {size : Int} {P : List En} {x : En} (h : ∀ y ∈ P, okP y = true) : ∀ y ∈ putL size P x, okP y = true := by
 unfold putL
 by_cases hc : putC size P x = 0
 ·
  rw [if_pos hc]
  intro y hy
  rcases mem_ins.1 hy with rfl | hy
  ·
   exact (putC_zero hc).1
  ·
   exact h y hy
 ·
  rw [if_neg hc]; exact h
theorem ord_takeL {g : Rg} {P : List En} (h : Ord P) : Ord (takeL g P) := by
 unfold takeL
 split
 ·
  exact h.filter _
 ·
  exact h
theorem ok_takeL {g : Rg} {P : List En} (h : ∀ y ∈ P, okP y = true) : ∀ y ∈ takeL g P, okP y = true := by
 unfold takeL
 split
 ·
  intro y hy
  exact h y (List.mem_filter.1 hy).1
 ·
  exact h
def Kp (D : Nat) (w w' : World) : Prop := ∀ (k : Nat) (cs : Array Value) (T : TypeId) (f : Nat × Nat), w.heap[k]? = some (.cells cs T f) → k ≠ D → T ≠ 125 → w'.heap[k]? = some (.cells cs T f)
structure Tb (base : Nat) (w0 : World) (D : Nat) (size : Int) (P : List En) (w : World) : Prop where
 tab : ∃ A c, TabP base D size A c P w
 bel : Below base w0 w
 le : base ≤ w.heap.size
 ord : Ord P
 ok : ∀ x ∈ P, okP x = true
section
variable {base D : Nat} {size : Int} {P : List En} {w0 w w' : World}
theorem Tb.lt (h : Tb base w0 D size P w) : D < w.heap.size := by obtain ⟨A, c, ht⟩ := h.tab; exact ht.lt
theorem Tb.below (h : Tb base w0 D size P w) (hb : Below w.heap.size w w') : Tb base w0 D size P w' := by
 obtain ⟨A, c, ht⟩ := h.tab
 exact ⟨⟨A, c, ht.below hb⟩, h.bel.trans (hb.mono h.le), Nat.le_trans h.le hb.size, h.ord, h.ok⟩
theorem Tb.kp {A A' : Option Addr} {c : Nat} (ht : TabP base D size A c P w) (hm : Mv D A A' w w') : Kp D w w' := fun k cs T f hk hD hT => (hm.chg.block k (blkX hk) fun q => by
 rcases q with q | q
 ·
  exact hD q
 ·
  exact ht.rowNe hk hT q).trans hk
theorem Tb.moved {A A' : Option Addr} {c c' : Nat} {P' : List En} (h : Tb base w0 D size P w) (ht : TabP base D size A c P w) (ht' : TabP base D size A' c' P' w') (hm : Mv D A A' w w') (ho : Ord P') (hk : ∀ x ∈ P', okP x = true) : Tb base w0 D size P' w' :=
 ⟨⟨A', c', ht'⟩, Chg.belowAfter h.bel hm.chg h.le (fun k hk q => by
  rcases q with q | q
  ·
   have := ht.ge; omega
  ·
   have := (ht.rowLt k q).1; omega), Nat.le_trans h.le hm.chg.size, ho, hk⟩
theorem Tb.put (h : Tb base w0 D size P w) (y : Ef) (key : ByteArray) (r : Rp) (hkey : key.size ≤ 140737488355328) :
  Calls Tryz.prog 70 #[.pointer (some ⟨D, 0, none⟩), .agg #[.int .i64 y.1, .int .i64 y.2.1, .int .i64 y.2.2], .string key, .agg #[.int .i64 r.1, .int .i64 r.2.1, .string r.2.2]] w fun e w' => e = .returned (.int .i64 (putC size P ⟨y, key, r⟩)) ∧ Tb base w0 D size (putL size P ⟨y, key, r⟩) w' ∧ Kp D w w' ∧ w.heap.size ≤ w'.heap.size := by
 obtain ⟨A, c, ht⟩ := h.tab
 refine (put_any ht h.ord h.le y key r hkey).mono ?_
 rintro e w' ⟨A', c', rfl, ht', hm⟩
 exact ⟨rfl, h.moved ht ht' hm (ord_putL h.ord) (ok_putL h.ok), Tb.kp ht hm, hm.chg.size⟩
theorem Tb.take (h : Tb base w0 D size P w) (a b : ByteArray) (ha : a.size ≤ 140737488355328) (hb : b.size ≤ 140737488355328) :
  Calls Tryz.prog 79 #[.pointer (some ⟨D, 0, none⟩), .agg #[.string a, .string b]] w fun e w' => ∃ B m d, e = .returned (.tuple #[.slice B m d, .int .i64 (takeC (a, b))]) ∧ m = (takeO (a, b) P).length ∧ ES w' B m (takeO (a, b) P) ∧ (∀ k, rowOf B = some k → w.heap.size ≤ k) ∧ Tb base w0 D size (takeL (a, b) P) w' ∧ Kp D w w' ∧ w.heap.size ≤ w'.heap.size := by
 obtain ⟨A, c, ht⟩ := h.tab
 refine (take_any ht h.ok a b ha hb).mono ?_
 rintro e w' ⟨B, m, d, rfl, hm, hE, hB, ht', hv⟩
 exact ⟨B, m, d, rfl, hm, hE, hB, h.moved ht ht' hv (ord_takeL h.ord) (ok_takeL h.ok), Tb.kp ht hv, hv.chg.size⟩
theorem Tb.all (h : Tb base w0 D size P w) :
  Calls Tryz.prog 56 #[.pointer (some ⟨D, 0, none⟩)] w fun e w' => ∃ B m d, e = .returned (.slice B m d) ∧ m = P.length ∧ ES w' B m (P.map En.e) ∧ (∀ g, rowOf B = some g → w.heap.size ≤ g ∧ ∃ cs, w'.heap[g]? = some (.cells cs 30 (0, 0))) ∧ Tb base w0 D size P w' ∧ Below w.heap.size w w' := by
 obtain ⟨A, c, ht⟩ := h.tab
 refine (all_any ht).mono ?_
 rintro e w' ⟨B, m, d, rfl, hm, hE, hB, hb⟩
 exact ⟨B, m, d, rfl, hm, hE, hB, h.below hb, hb⟩
end
end Go.Proofs.YtgnjnpddehdmcaaGreatDoor

namespace Go.Proofs.YtgnjnpddehdmcaaGreatDoor
open Go.RowKit Go.Shelf
set_option linter.unusedSimpArgs false
set_option linter.unusedVariables false
set_option linter.unusedSectionVars false
set_option maxRecDepth 10000
def putKs (l : Ct) (ks : List ByteArray) (cs : List Cn) : Ct := (ks.zip cs).foldl (fun l y => stPutL l y.1 y.2) l
def ownE (x : Sh) (r : Rg) (ks : List ByteArray) (cs : List Cn) : Int := if fitsB r ks cs then (if meetsB x r then 6 else if 64 < x.cnt.length + ks.length then 4 else 0) else 2
def ownX (x : Sh) (r : Rg) (ks : List ByteArray) (cs : List Cn) : Sh := if ownE x r ks cs = 0 then { x with own := takeG x.own r, cnt := putKs x.cnt ks cs } else x
theorem putKs_next {l : Ct} {ks : List ByteArray} {cs : List Cn} {j : Nat} {k : ByteArray} {c : Cn} (h1 : ks[j]? = some k) (h2 : cs[j]? = some c) : putKs l (ks.take (j + 1)) (cs.take (j + 1)) = stPutL (putKs l (ks.take j) (cs.take j)) k c := by
 unfold putKs
 have e1 : ks.take (j + 1) = ks.take j ++ [k] := by rw [List.take_add_one, h1]; rfl
 have e2 : cs.take (j + 1) = cs.take j ++ [c] := by rw [List.take_add_one, h2]; rfl
 have hl : (ks.take j).length = (cs.take j).length := by
  have := (List.getElem?_eq_some_iff.1 h1).1; have := (List.getElem?_eq_some_iff.1 h2).1
  simp only [List.length_take]; omega
 rw [e1, e2, List.zip_append hl, List.foldl_append]; rfl
theorem meet_same {a r : Rg} (ha : okG a = true) (hr : okG r = true) (h : a.1 = r.1) : meetB a r = true := by
 unfold meetB
 rw [ha, hr, Bool.and_self, Bool.true_and]
 unfold meetT
 have hm : maxB a.1 r.1 = a.1 := by unfold maxB; rw [h, less_irr]; rfl
 rw [hm]
 split
 ·
  obtain ⟨r1, r2⟩ := r; simp only at h; subst h; exact hr
 ·
  exact ha
theorem dist_new {own : List Rg} {r : Rg} {x : Sh} (hx : x.own = own) (hok : ∀ g ∈ own, okG g = true) (hr : okG r = true) (hm : meetsB x r = false) (hd : ∀ a ∈ own, ∀ b ∈ own, a.1 = b.1 → a = b) : ∀ a ∈ own ++ [r], ∀ b ∈ own ++ [r], a.1 = b.1 → a = b := by
 have hno : ∀ a ∈ own, a.1 ≠ r.1 := fun a ha e => by
  unfold meetsB at hm
  rw [hx, List.any_eq_false] at hm
  exact hm a ha (meet_same (hok a ha) hr e)
 intro a ha b hb e
 rcases List.mem_append.1 ha with ha | ha <;> rcases List.mem_append.1 hb with hb | hb
 ·
  exact hd a ha b hb e
 ·
  have hb' : b = r := by simpa using hb
  rw [hb'] at e; exact absurd e (hno a ha)
 ·
  have ha' : a = r := by simpa using ha
  rw [ha'] at e; exact absurd e.symm (hno b hb)
 ·
  simp at ha hb; rw [ha, hb]
theorem fits_ok {r : Rg} {ks : List ByteArray} {cs : List Cn} (h : fitsB r ks cs = true) : ks.length = cs.length ∧ okG r = true := by
 unfold fitsB at h
 simp only [Bool.and_eq_true, decide_eq_true_eq] at h
 exact ⟨h.1.1.1.1, h.1.1.1.2⟩
attribute [local go_sem ↓] hideAppend
set_option maxHeartbeats 16000000 in
theorem shOwn_any {base : Nat} {p : Pl} {x : Sh} {v : World} (h : ShW base p x v) (hbv : base ≤ v.heap.size) (hn : x.own.length ≤ 5000) (r1 r2 : ByteArray) (hr : szG (r1, r2)) (A : Option Addr) (n c : Nat) (ks : List ByteArray) (A2 : Option Addr) (n2 c2 : Nat) (cs : List Cn) (hks : KS v A n ks) (hcs : CS v A2 n2 cs) (hn1 : n ≤ 1000000) (hn2 : n2 ≤ 1000000) (hsz : ∀ k ∈ ks, k.size ≤ 140737488355328) (hA : 0 < n → ∀ k, rowOf A = some k → ¬ p.foot k) (hA2 : 0 < n2 → ∀ k, rowOf A2 = some k → ¬ p.foot k) (hd : ∀ a ∈ x.own, ∀ b ∈ x.own, a.1 = b.1 → a = b) : Calls Tryz.prog 15 #[.pointer (some ⟨p.S, 0, none⟩), .agg #[.string r1, .string r2], .slice A n c, .slice A2 n2 c2] v fun e w' => e = .returned (.int .i64 (ownE x (r1, r2) ks cs)) ∧ ∃ p', ShTo base p p' (ownX x (r1, r2) ks cs) v w' := by
 obtain ⟨fe, hfe⟩ : ∃ z, z = ownE x (r1, r2) ks cs := ⟨_, rfl⟩
 obtain ⟨fx, hfx⟩ : ∃ z, z = ownX x (r1, r2) ks cs := ⟨_, rfl⟩
 rw [← hfe, ← hfx]
 unfold ownX at hfx
 rw [← hfe] at hfx
 unfold ownE at hfe
 obtain ⟨W1, hW1⟩ : ∃ W1, W1 = (v.alloc (.cells #[.string r1, .string r2] 32)) := ⟨_, rfl⟩
 have k1 : Below v.heap.size v W1 := by rw [hW1]; exact (Below.refl _ v).alloc (Nat.le_refl _) _
 have b0 : W1.heap[v.heap.size]? = some (.cells #[.string r1, .string r2] 32 (0, 0)) := by rw [hW1]; repeat (first | exact hpNewAt _ (by simp) | exact hpNew _ _ | refine (hpOld _ (by simp <;> omega)).trans ?_)
 have h1 := h.below k1
 have hv := fun (W : World) (hb : Below v.heap.size v W) => shValid_any (h.below hb)
 have hf := fun (W : World) (hb : Below v.heap.size v W) => fits_any r1 r2 A n c ks A2 n2 c2 cs W (SL.keep hks hb) (SL.keep hcs hb) hn1 hn2 hr hsz
 have hmt := fun (W : World) (hb : Below v.heap.size v W) => shMeets_any (h.below hb) (by omega) r1 r2 hr
 have hln := fun (W : World) (hb : Below v.heap.size v W) => stLen_any (h.below hb).st
 have hkl := hks.1; have hcl := hcs.1
 have hlt := h.lt
 have z0 := blkC b0 0; have z1 := blkC b0 1; have zx := blkX b0
 simp only [List.getElem?_toArray, List.getElem?_cons_zero, List.getElem?_cons_succ] at z0 z1
 replace h := Lh h; replace h1 := Lh h1; replace k1 := Lh k1; replace b0 := Lh b0; replace hks := Lh hks; replace hcs := Lh hcs; replace hfe := Lh hfe; replace hfx := Lh hfx; replace hv := Lh hv; replace hf := Lh hf; replace hmt := Lh hmt; replace hln := Lh hln; replace hkl := Lh hkl; replace hcl := Lh hcl; replace hd := Lh hd; replace hA := Lh hA; replace hA2 := Lh hA2; replace hsz := Lh hsz
 go_enter Tryz.func15, Tryz.ntmps15
 go_wp2_with (fail)
 rw [← hW1]
 replace hW1 := Lh hW1
 refine (hv.out _ k1.out).mono ?_
 rintro e W2 ⟨rfl, hW2⟩
 subst hW2
 go_wp2_with (fail)
 have hq := hf.out _ k1.out
 cases hb1 : fitsB (r1, r2) ks cs with
 | false =>
  rw [hb1] at hq
  have e2 : fe = 2 := by rw [hfe.out]; simp [hb1]
  have e3 : x = fx := by rw [hfx.out, e2]; rfl
  subst e2; subst e3
  refine hq.mono ?_
  rintro e W3 ⟨rfl, b3⟩
  have k3 := Lh (k1.out.trans (b3.mono k1.out.size))
  clear b3 hq
  go_wp2_with (fail)
  go_ret
  exact ⟨rfl, p, ShTo.below h.out k3.out⟩
 | true =>
  rw [hb1] at hq
  obtain ⟨hlen, hok⟩ := fits_ok hb1
  refine hq.mono ?_
  rintro e W3 ⟨rfl, b3⟩
  have k3 := Lh (k1.out.trans (b3.mono k1.out.size))
  have q3 := Lh ((b3.block _ (blkX b0.out)).trans b0.out)
  clear b3 hq z0 z1 zx
  have z0 := blkC q3.out 0; have z1 := blkC q3.out 1; have zx := blkX q3.out
  simp only [List.getElem?_toArray, List.getElem?_cons_zero, List.getElem?_cons_succ] at z0 z1
  go_wp2_with (fail)
  have hq := hmt.out _ k3.out
  cases hb2 : meetsB x (r1, r2) with
  | true =>
   rw [hb2] at hq
   have e2 : fe = 6 := by rw [hfe.out]; simp [hb1, hb2]
   have e3 : x = fx := by rw [hfx.out, e2]; rfl
   subst e2; subst e3
   refine hq.mono ?_
   rintro e W4 ⟨rfl, b4⟩
   have k4 := Lh (k3.out.trans (b4.mono k3.out.size))
   clear b4 hq z0 z1 zx
   go_wp2_with (fail)
   go_ret
   exact ⟨rfl, p, ShTo.below h.out k4.out⟩
  | false =>
   rw [hb2] at hq
   refine hq.mono ?_
   rintro e W4 ⟨rfl, b4⟩
   have k4 := Lh (k3.out.trans (b4.mono k3.out.size))
   have q4 := Lh ((b4.block _ (blkX q3.out)).trans q3.out)
   clear b4 hq z0 z1 zx
   have s3 : W4.cell? ⟨p.S, 3, none⟩ = some (.pointer (some ⟨p.St, 0, none⟩)) := blkC (h.out.below k4.out).blk 3
   have sx := (h.out.below k4.out).lt
   go_wp2_with (fail)
   refine (hln.out _ k4.out).mono ?_
   rintro e W5 ⟨rfl, rfl⟩
   have hcn := h.out.st.len
   by_cases hbig : 64 < x.cnt.length + ks.length
   ·
    have e2 : fe = 4 := by rw [hfe.out, hb1, hb2]; simp [hbig]
    have e3 : x = fx := by rw [hfx.out, e2]; rfl
    subst e2; subst e3
    have hb3 : ((64 : Int) < (x.cnt.length : Int) + (n : Int)) = True := eq_true (by have := hkl.out; omega)
    replace hbig := Lh hbig
    go_wp2_with (fail)
    go_ret
    exact ⟨rfl, p, ShTo.below h.out k4.out⟩
   ·
    have e2 : fe = 0 := by rw [hfe.out, hb1, hb2]; simp [hbig]
    have hb3 : ((64 : Int) < (x.cnt.length : Int) + (n : Int)) = False := eq_false (by have := hkl.out; omega)
    subst e2
    have hfx2 := hfx.out
    rw [if_pos rfl] at hfx2
    clear hfx hfe
    replace hfx2 := Lh hfx2; replace hbig := Lh hbig; replace hlen := Lh hlen
    have htk := fun (W : World) (hb : Below v.heap.size v W) => shTake_any (h.out.below hb) (Nat.le_trans hbv hb.size) (by omega) r1 r2 hok (dist_new rfl h.out.ok hok hb2 hd.out)
    have z0 := blkC q4.out 0; have z1 := blkC q4.out 1; have zx := blkX q4.out
    simp only [List.getElem?_toArray, List.getElem?_cons_zero, List.getElem?_cons_succ] at z0 z1
    replace htk := Lh htk
    clear s3 sx
    go_wp2_with (fail)
    refine (htk.out _ k4.out).mono ?_
    rintro e W6 ⟨rfl, A', c', hto⟩
    have hT := Lh (hto.pre k4.out)
    clear hto z0 z1 zx
    go_wp2_with (fail)
    go_loopw [40] (fun i wr => ∃ j : Nat, j ≤ n ∧ i = .int .i64 j ∧ ShTo base p { p with A := A', c := c' } { x with own := takeG x.own (r1, r2), cnt := putKs x.cnt (ks.take j) (cs.take j) } v wr) (fun i _ => n - (intOf i).toNat)
    case atStart => exact ⟨0, by omega, rfl, hT.out⟩
    case round =>
     clear hT
     revert wr
     intro X hrel
     obtain ⟨j, hj, rfl, hT⟩ := hrel
     by_cases hlt2 : j < n
     ·
      have hj2 : j < n2 := by have := hlen.out; have := hkl.out; have := hcl.out; omega
      have hkX : KS X A n ks := hks.out.same fun q hq hql => ⟨Nat.lt_of_lt_of_le hql hT.chg.size, hT.chg.block q hql (hA.out (by omega) q hq)⟩
      have hcX : CS X A2 n2 cs := hcs.out.same fun q hq hql => ⟨Nat.lt_of_lt_of_le hql hT.chg.size, hT.chg.block q hql (hA2.out (by omega) q hq)⟩
      obtain ⟨b, o, k, rfl, hbl, hx, hc⟩ := SL.at_ hkX hlt2
      obtain ⟨b2, o2, cc, rfl, hbl2, hx2, hc2⟩ := SL.at_ hcX hj2
      have s9 := hc 0 _ rfl
      rw [Nat.mul_one, Nat.add_zero] at s9
      have hnx := putKs_next (l := x.cnt) hx hx2
      have hks2 := hsz.out k (List.mem_of_getElem? hx)
      obtain ⟨y1, y2, y3, y4, y5⟩ := cc
      have d0 := hc2 0 _ rfl; have d1 := hc2 1 _ rfl; have d2 := hc2 2 _ rfl; have d3 := hc2 3 _ rfl; have d4 := hc2 4 _ rfl
      rw [Nat.add_zero] at d0
      simp only at d0 d1 d2 d3 d4
      clear hc hc2 hx hx2
      obtain ⟨Y, hY⟩ : ∃ W, W = X.drew := ⟨_, rfl⟩
      have bY : Below X.heap.size X Y := by rw [hY]; exact (Below.refl _ _).drew
      have hTY := hT.thenB bY
      have hSY : (fun W' : World => W'.heap[p.S]? = some (.cells (shV { p with A := A', c := c' } { x with own := takeG x.own (r1, r2), cnt := putKs x.cnt (ks.take j) (cs.take j) }) 88 (0, 0)) ∧ W'.cell? ⟨b2, o2 + j * 5, none⟩ = some (.int .i64 y1) ∧ W'.cell? ⟨b2, o2 + j * 5 + 1, none⟩ = some (.int .i64 y2) ∧ W'.cell? ⟨b2, o2 + j * 5 + 2, none⟩ = some (.int .i64 y3) ∧ W'.cell? ⟨b2, o2 + j * 5 + 3, none⟩ = some (.int .i64 y4) ∧ W'.cell? ⟨b2, o2 + j * 5 + 4, none⟩ = some (.int .i64 y5)) Y := ⟨hTY.sh.blk, (bY.cell (p := ⟨b2, _, none⟩) hbl2).trans d0, (bY.cell (p := ⟨b2, _, none⟩) hbl2).trans d1, (bY.cell (p := ⟨b2, _, none⟩) hbl2).trans d2, (bY.cell (p := ⟨b2, _, none⟩) hbl2).trans d3, (bY.cell (p := ⟨b2, _, none⟩) hbl2).trans d4⟩
      have hbY2 : b2 < Y.heap.size := Nat.lt_of_lt_of_le hbl2 bY.size
      have hnf2 := hA2.out (by omega) b2 rfl
      have hpt := stPut_any hTY.sh.st k hks2 y1 y2 y3 y4 y5
      have j0 : (0 : Int) ≤ j := by omega
      have j1 : (j : Int) < (n : Int) := by omega
      have j2 : (j : Int) < (n2 : Int) := by omega
      have hbv2 : b2 < v.heap.size ∨ v.heap.size ≤ b2 := by omega
      replace hT := Lh hT; replace hTY := Lh hTY; replace hSY := Lh hSY; replace hY := Lh hY; replace hnx := Lh hnx; replace hkX := Lh hkX; replace hcX := Lh hcX
      clear bY d0 d1 d2 d3 d4
      go_wp2_with (fail)
      clear s9
      refine wp_region_held_drew (S := (fun W' : World => W'.heap[p.S]? = some (.cells (shV { p with A := A', c := c' } { x with own := takeG x.own (r1, r2), cnt := putKs x.cnt (ks.take j) (cs.take j) }) 88 (0, 0)) ∧ W'.cell? ⟨b2, o2 + j * 5, none⟩ = some (.int .i64 y1) ∧ W'.cell? ⟨b2, o2 + j * 5 + 1, none⟩ = some (.int .i64 y2) ∧ W'.cell? ⟨b2, o2 + j * 5 + 2, none⟩ = some (.int .i64 y3) ∧ W'.cell? ⟨b2, o2 + j * 5 + 3, none⟩ = some (.int .i64 y4) ∧ W'.cell? ⟨b2, o2 + j * 5 + 4, none⟩ = some (.int .i64 y5))) (by kernel_rfl) ?_ (fun hH => ?_)
      ·
       try rw [← hY.out]
       exact hSY.out
      refine tl 0 hH ?_
      refine tl 1 hH ?_
      refine tl 2 hH ?_
      refine tk (i := 3) (v := ?_) (hy := .inl ⟨by rfl, by intro w hSw; obtain ⟨sS, q0, q1, q2, q3', q4'⟩ := hSw; have t0 : w.cell? ⟨p.S, 3, none⟩ = some (.pointer (some ⟨p.St, 0, none⟩)) := blkC sS 3; go_simp; first | done | with_reducible rfl⟩) (hS := hH) (h := ?_)
      refine tl 4 hH ?_
      refine tl 5 hH ?_
      refine tl 6 hH ?_
      refine tl 7 hH ?_
      refine tk (i := 8) (v := ?_) (hy := .inl ⟨by rfl, by intro w hSw; obtain ⟨sS, q0, q1, q2, q3', q4'⟩ := hSw; go_simp; first | done | with_reducible rfl⟩) (hS := hH) (h := ?_)
      refine wpAnyH_ready (rs := [9]) (by kernel_rfl) (by simp) ?_
      refine AllReadyH.cons rfl (fun K hK => ?_) ?_
      ·
       clear hH
       try rw [← hY.out]
       go_simp
       refine hpt.mono ?_
       rintro e V ⟨rfl, hst⟩
       have hT3 := Lh (hTY.out.trans (hTY.out.sh.setCnt hst))
       have hcel : ∀ q, V.cell? ⟨b2, q, none⟩ = Y.cell? ⟨b2, q, none⟩ := fun q => World.cell?_of_block (w := Y) (hst.chg.block b2 hbY2 (fun e => hnf2 (.inr (.inr (.inl e)))))
       have hS3 := Lh (show (fun W' : World => W'.heap[p.S]? = some (.cells (shV { p with A := A', c := c' } { x with own := takeG x.own (r1, r2), cnt := putKs x.cnt (ks.take j) (cs.take j) }) 88 (0, 0)) ∧ W'.cell? ⟨b2, o2 + j * 5, none⟩ = some (.int .i64 y1) ∧ W'.cell? ⟨b2, o2 + j * 5 + 1, none⟩ = some (.int .i64 y2) ∧ W'.cell? ⟨b2, o2 + j * 5 + 2, none⟩ = some (.int .i64 y3) ∧ W'.cell? ⟨b2, o2 + j * 5 + 3, none⟩ = some (.int .i64 y4) ∧ W'.cell? ⟨b2, o2 + j * 5 + 4, none⟩ = some (.int .i64 y5)) V from ⟨hT3.out.sh.blk, (hcel _).trans hSY.out.2.1, (hcel _).trans hSY.out.2.2.1, (hcel _).trans hSY.out.2.2.2.1, (hcel _).trans hSY.out.2.2.2.2.1, (hcel _).trans hSY.out.2.2.2.2.2⟩)
       clear hst hpt hcel
       refine hK _ _ hS3.out (fun hH => ?_)
       clear hK K
       refine wpAnyH_done (by kernel_rfl) ?_ _
       clear hH
       go_wp2_with (fail)
       exact ⟨⟨j + 1, by omega, by go_num, by rw [hnx.out]; exact hT3.out⟩, by simp [intOf]; omega⟩
      exact AllReadyH.nil
     ·
      obtain rfl : j = n := by omega
      rw [List.take_of_length_le (by have := hkl.out; omega), List.take_of_length_le (by have := hlen.out; have := hkl.out; omega)] at hT
      replace hT := Lh hT
      go_wp2_with (fail)
      go_ret
      exact ⟨rfl, _, by rw [hfx2.out]; exact hT.out⟩
end Go.Proofs.YtgnjnpddehdmcaaGreatDoor
