/- A command as an argument. -/
import Derived.Test.YtkpfkabdodnooaaGreatDoorShL
import Derived.Test.YtkpfkabdodnooaaGreatDoorShM
import Derived.Test.YtkpfkabdodnooaaGreatDoorOut
import Derived.Test.YtkpfkabdodnooaaGreatDoorOwn
import Derived.Test.YtkpfkabdodnooaaGreatDoorRows
import Derived.Deep.Slices
import Derived.Deep.Fields
import Derived.ChangeSame
import Derived.SizedLaws
import Derived.OpenShut
import Derived.ChangeSlices
import Derived.Test.YtkpfkabdodnooaaGreatDoorClG
import Derived.Lib.SmallJoins
import Derived.ChangeOld
import Derived.Deep.Strs
namespace Go.Proofs.YtkpfkabdodnooaaGreatDoor
open Go.RowKit Go.Shelf
set_option linter.unusedSimpArgs false
set_option linter.unusedVariables false
set_option linter.unusedSectionVars false
set_option maxRecDepth 10000
def sC : ByteArray := ⟨#[99]⟩
def cdE (saga step ph dl : Int) : Cd := { k := 1, call := 0, saga := 0, e := (saga, step, ph), key := sC, dl := dl, mv := 0, r := (noText, noText), gr := 0, dn := noText, dr := 0, dd := 0, dA := none, dl' := 0, dc := 0, ie := (0, 0, 0), im := 0, ii := false, ig := 0, res := 0, dat := noText }
def cdO : Cd := { k := 3, call := 0, saga := 0, e := (0, 0, 0), key := noText, dl := 0, mv := 1, r := (⟨#[98]⟩, ⟨#[100]⟩), gr := 0, dn := noText, dr := 0, dd := 0, dA := none, dl' := 0, dc := 0, ie := (0, 0, 0), im := 0, ii := false, ig := 0, res := 0, dat := noText }
def w1 : Sh := { group := 1, app := 0, own := [(⟨#[97]⟩, ⟨#[109]⟩)], cnt := [(sC, (5, 0, 0, 0, 10))], mem := [], giv := [], tak := [] }
def rAM : Rg := (⟨#[97]⟩, ⟨#[109]⟩)
theorem own_e : ownE (newS 1) rAM [sC] [(5, 0, 0, 0, 10)] = 0 := by decide +kernel
theorem own_w1 : ownX (newS 1) rAM [sC] [(5, 0, 0, 0, 10)] = w1 := by
  unfold ownX
  rw [if_pos own_e]
  have h1 : takeG (newS 1).own rAM = [rAM] := by decide +kernel
  have h2 : putKs (newS 1).cnt [sC] [(5, 0, 0, 0, 10)] = [(sC, (5, 0, 0, 0, 10))] := by decide +kernel
  rw [h1, h2]; rfl
def cA : Cd := cdE 1 0 1 3
def cB : Cd := cdE 1 0 1 7
def cC : Cd := cdE 2 0 1 4
def cDD : Cd := cdE 2 0 2 4
def cG : Cd := cdE 3 1 2 2
def cH : Cd := cdE 3 1 1 2
def cI : Cd := cdE 1 0 3 3
def w2 : Sh := effX (incS w1) cA
def w3 : Sh := effX (incS w2) cB
def w4 : Sh := effX (incS w3) cC
def w5 : Sh := effX (incS w4) cDD
def w6 : Sh := effX (incS w5) cG
def w7 : Sh := effX (incS w6) cH
def w8 : Sh := effX (incS w7) cI
def w9 : Sh := outX (incS w8) cdO
def w10 : Sh := effX (incS w9) cA
theorem r_a : effR (incS w1) cA = (0, 8, noText) := by decide +kernel
theorem r_b : effR (incS w2) cB = (0, 8, noText) := by decide +kernel
theorem r_c : effR (incS w3) cC = (7, 0, noText) := by decide +kernel
theorem r_d : effR (incS w4) cDD = (0, 0, noText) := by decide +kernel
theorem r_g : effR (incS w5) cG = (0, 0, noText) := by decide +kernel
theorem r_h : effR (incS w6) cH = (9, 0, noText) := by decide +kernel
theorem r_i : effR (incS w7) cI = (0, 8, noText) := by decide +kernel
theorem r_o : (outR (incS w8) cdO).1 = 0 ∧ (outR (incS w8) cdO).2.1 = 0 ∧ ¬ (outR (incS w8) cdO).2.2 = noText := by decide +kernel
theorem r_j : effR (incS w9) cA = (16, 0, noText) := by decide +kernel
def wkB (x : Sh) : Bool := decide (0 ≤ x.app) && decide (x.app ≤ 1000) && decide (x.own.length ≤ 100) && decide (x.giv.length ≤ 100)
theorem wk1 : wkB w1 = true := by decide +kernel
theorem wk2 : wkB w2 = true := by decide +kernel
theorem wk3 : wkB w3 = true := by decide +kernel
theorem wk4 : wkB w4 = true := by decide +kernel
theorem wk5 : wkB w5 = true := by decide +kernel
theorem wk6 : wkB w6 = true := by decide +kernel
theorem wk7 : wkB w7 = true := by decide +kernel
theorem wk8 : wkB w8 = true := by decide +kernel
theorem wk9 : wkB w9 = true := by decide +kernel
theorem w10_app : w10.app = 9 := by decide +kernel
theorem w10_own : w10.own.length = 2 := by decide +kernel
def ckB (c : Cd) : Bool := checkB c && decide (c.k = 1) && (decide (c.e.2.2 = 1) || decide (c.e.2.2 = 2) || decide (c.e.2.2 = 3))
theorem ck_A : ckB cA = true := by decide +kernel
theorem ck_B : ckB cB = true := by decide +kernel
theorem ck_C : ckB cC = true := by decide +kernel
theorem ck_D : ckB cDD = true := by decide +kernel
theorem ck_G : ckB cG = true := by decide +kernel
theorem ck_H : ckB cH = true := by decide +kernel
theorem ck_I : ckB cI = true := by decide +kernel
theorem ck_O : checkB cdO = true := by decide +kernel
theorem apEff_any {base : Nat} {p : Pl} {x : Sh} {v : World} (h : ShW base p x v) (hx : wkB x = true) (c : Cd) (hc : ckB c = true) (hbv : base ≤ v.heap.size) (hs : szCd c) (hd1 : -9223372036854775808 ≤ c.dl) (hd2 : c.dl ≤ 9223372036854775807) : Calls Tryz.prog 9 #[.pointer (some ⟨p.S, 0, none⟩), .agg (cdV c)] v fun e w' => ∃ p', e = .returned (rpV (effR (incS x) c)) ∧ ShTo base p p' (effX (incS x) c) v w' := by
  unfold wkB at hx; unfold ckB at hc
  simp only [Bool.and_eq_true, Bool.or_eq_true, decide_eq_true_eq] at hx hc
  have hk : c.k = 1 := hc.1.2
  refine apply_good h c (by omega) (by omega) (by omega) (by omega) hbv hs (g := 30) (by rw [hk]; rfl) (by rw [hk]; rfl) (enters_of Tryz.func30 (by kernel_rfl) rfl) hc.1.1 _ _ fun W hW hb => ?_
  refine (shEffect_any hW c hs.2 hd1 hd2 hb (by show x.own.length ≤ 1000000; omega) (by rcases hc.2 with (q | q) | q <;> simp [q])).mono ?_
  rintro e w' ⟨rfl, p', ht⟩
  exact ⟨p', rfl, ht⟩
theorem apOut_any {base : Nat} {p : Pl} {x : Sh} {v : World} (h : ShW base p x v) (hx : wkB x = true) (c : Cd) (hc : checkB c = true) (hk : c.k = 3) (hbv : base ≤ v.heap.size) (hs : szCd c) (hd1 : -9223372036854775808 ≤ c.mv) (hd2 : c.mv ≤ 9223372036854775807) : Calls Tryz.prog 9 #[.pointer (some ⟨p.S, 0, none⟩), .agg (cdV c)] v fun e w' => ∃ p', e = .returned (rpV (outR (incS x) c)) ∧ ShTo base p p' (outX (incS x) c) v w' := by
  unfold wkB at hx
  simp only [Bool.and_eq_true, decide_eq_true_eq] at hx
  refine apply_good h c (by omega) (by omega) (by omega) (by omega) hbv hs (g := 32) (by rw [hk]; rfl) (by rw [hk]; rfl) (enters_of Tryz.func32 (by kernel_rfl) rfl) hc _ _ fun W hW hb => ?_
  refine (shOut_any hW hb (by show x.own.length ≤ 10000; omega) (by show x.giv.length ≤ 1000000; omega) c hs.1 hd1 hd2).mono ?_
  rintro e w' ⟨rfl, p', ht⟩
  exact ⟨p', rfl, ht⟩
theorem ShW.not_foot {base : Nat} {p : Pl} {x : Sh} {W : World} (h : ShW base p x W) {k : Nat} {cs : Array Value} {T : TypeId} {f : Nat × Nat} (hk : W.heap[k]? = some (.cells cs T f)) (h1 : T ≠ 43) (h2 : T ≠ 121) (h3 : T ≠ 172) (h4 : T ≠ 25) (h5 : T ≠ 111) : ¬ p.foot k := by
  intro q
  rcases q with q | q | q | q | q | q | q | q
  · exact ne_cells hk h.blk h1 q
  · exact ne_cells hk h.st.blk h2 q
  · exact MapOf.ncell h.st.map (q ▸ hk)
  · exact ne_cells hk h.mem.blk h3 q
  · exact MapOf.ncell h.giv (q ▸ hk)
  · exact MapOf.ncell h.tak (q ▸ hk)
  · obtain ⟨ds, hd⟩ := row_cells h.own q
    exact ne_cells hk hd h4 rfl
  · obtain ⟨ds, hd⟩ := row_cells h.mem.own q
    exact ne_cells hk hd h5 rfl
theorem ShTo.reply {base : Nat} {p p' : Pl} {x x' : Sh} {w w' : World} (ht : ShTo base p p' x' w w') (h : ShW base p x w) {k : Nat} {cs : Array Value} {f : Nat × Nat} (hk : w.heap[k]? = some (.cells cs 50 f)) : w'.heap[k]? = some (.cells cs 50 f) :=
  ht.blk hk (h.not_foot hk (by decide) (by decide) (by decide) (by decide) (by decide))
end Go.Proofs.YtkpfkabdodnooaaGreatDoor

namespace Go.Proofs.YtkpfkabdodnooaaGreatDoor
open Go.ChangeShapes Go.WideShapes Go.Deep
section
variable {H : Type} {enc : TypeId × Value → H} {P : Program} {w : World} {base : Nat} {spare : Nat → Bool} {held : Bool}
theorem open_slice_fields {t e : TypeId} {fs : Array Field} {fuel : Nat} {cs : List Value} {x : DataW H × List MemPlace} (ht : P.underlying t = some (.slice e)) (he : P.underlying e = some (.struct fs))
    (hone : oneCellFields P fs = true) (hC : P.cellsOf e = fs.size) (h : DataW.trod enc P w base spare held fuel t cs = some x) :
    (cs = [.slice none 0 0] ∧ x = (.nil, [])) ∨
    ∃ (a : Addr) (len cap m : Nat) (D : Nat → DataW H) (Pl : Nat → List MemPlace), cs = [.slice (some a) len cap] ∧ base ≤ a.block ∧ len ≤ cap ∧ cap ≤ maxLen ∧ m = (if spare a.block then cap else len) ∧
      x = (.slice ((List.range len).map D) ((List.range (m - len)).map fun j => D (len + j)), MemPlace.row a (m * fs.size) ++ (List.range m).flatMap Pl) ∧
      ∀ i, i < m → ∃ (ys : List (DataW H × List MemPlace)) (n : Nat), D i = .agg (ys.map (·.1)) ∧ Pl i = ys.flatMap (·.2) ∧ ys.length = fs.size ∧
        ∀ (j : Nat) (f : Field), fs[j]? = some f → ∃ (v : Value) (y : DataW H × List MemPlace), w.cell? (a.add (i * fs.size + j)) = some v ∧ ys[j]? = some y ∧ DataW.trod enc P w base spare held n f.type [v] = some y := by
  rcases open_slice ht h with h0 | ⟨a, len, cap, m, n, D, Pl, hcs, hb, hl, hm, hmm, hx, hi⟩
  · exact .inl h0
  · refine .inr ⟨a, len, cap, m, D, Pl, hcs, hb, hl, hm, hmm, by rw [hC] at hx; exact hx, fun i him => ?_⟩
    obtain ⟨cs', hc, ht'⟩ := hi i him
    rw [hC] at hc
    obtain ⟨ys, n', hn', hy, hlen, hyl, hf⟩ := DataW.trod_struct he ht'
    obtain ⟨_, hcl, hat⟩ := World.cells?_some hc
    simp only [Prod.mk.injEq] at hy
    refine ⟨ys, n', hy.1, hy.2, hyl, fun j f hj => ?_⟩
    obtain ⟨ho, hk⟩ := hone_of hone j f hj
    have hjl : j < fs.size := (Array.getElem?_eq_some_iff.1 hj).1
    have hcell := hat j hjl
    have hv : cs'[j]? = some (cs'[j]'(by omega)) := List.getElem?_eq_getElem (by omega)
    have h1 := hf j f hj
    rw [ho, hk] at h1
    have hone' : (cs'.drop j).take 1 = [cs'[j]'(by omega)] := by
      rw [List.drop_eq_getElem_cons (by omega)]
      rfl
    rw [hone'] at h1
    have hys : ys[j]? = some (ys[j]'(by omega)) := List.getElem?_eq_getElem (by omega)
    refine ⟨_, _, ?_, hys, h1.trans hys⟩
    rw [← Go.Deep.add_add, hcell, hv]
end
def Weighs {H : Type} (P : Program) (t : TypeId) (d : DataW H) : Prop := ∀ n ∈ d.weights P t, n ≤ reachBytes
theorem weighs_of {H : Type} {P : Program} {ts : List TypeId} {ds : List (DataW H)} (h : (DataW.weightsEach P ts ds).all (· ≤ reachBytes) = true) (j : Nat) {t : TypeId} {d : DataW H} (ht : ts[j]? = some t) (hd : ds[j]? = some d) : Weighs P t d :=
  fun n hn => by simpa using List.all_eq_true.1 h n (DataW.weights_mem_each ht hd n hn)
end Go.Proofs.YtkpfkabdodnooaaGreatDoor

namespace Go.Proofs.YtkpfkabdodnooaaGreatDoor
open Go.RowKit Go.Shelf
set_option linter.unusedSimpArgs false
set_option linter.unusedVariables false
set_option linter.unusedSectionVars false
set_option maxRecDepth 10000
theorem blk_addC (a : Addr) (n : Nat) : (a.add n).block = a.block := by
  unfold Addr.add; split <;> rfl
open Go.ChangeShapes Go.WideShapes Go.Deep Go.Joins
section
variable {H : Type} {enc : TypeId × Value → H} {w : World} {r : Reach} {b0 : Nat}
theorem open_steps2 {v : Value} {d : DataW H × List MemPlace} {fuel : Nat} (hf : DataW.trod enc Tryz.prog w 0 (fun _ => true) true fuel 26 [v] = some d) : ∃ A n c l, v = .slice A n c ∧ SS2 w A n l := by
  rcases open_slice_fields Tryz.underlying26 Tryz.underlying107 (by kernel_rfl) (by kernel_rfl) hf with ⟨hcs, hx⟩ | ⟨a, len, cap, m, D, Pl, hcs, _, hl, hm, hmm, hx, hi⟩
  · simp only [List.cons.injEq, and_true] at hcs
    subst hcs
    exact ⟨none, 0, 0, [], rfl, SL.nil _ _⟩
  · simp only [List.cons.injEq, and_true] at hcs
    subst hcs
    simp only [if_true] at hmm
    subst hmm
    have hel : ∀ i, i < len → ∃ u : ByteArray × Int, w.cell? (a.add (i * 2)) = some (.string u.1) ∧ w.cell? (a.add (i * 2 + 1)) = some (.int .i64 u.2) := by
      intro i hin
      obtain ⟨ys, q, hD, _, hyl, hfs⟩ := hi i (by omega)
      obtain ⟨v0, y0, hc0, hy0, t0⟩ := hfs 0 _ rfl
      obtain ⟨v1, y1, hc1, hy1, t1⟩ := hfs 1 _ rfl
      obtain ⟨a0, e0, x0, w0⟩ := DataW.trod_string Tryz.underlying9 t0
      obtain ⟨a1, e1, x1, w1⟩ := DataW.trod_int Tryz.underlying2 t1
      simp only [List.cons.injEq, and_true] at e0 e1
      subst e0 e1
      exact ⟨(a0, a1), hc0, hc1⟩
    let F : Nat → ByteArray × Int := fun i => if hin : i < len then (hel i hin).choose else (ByteArray.empty, 0)
    have hF : ∀ i (hin : i < len), w.cell? (a.add (i * 2)) = some (.string (F i).1) ∧ w.cell? (a.add (i * 2 + 1)) = some (.int .i64 (F i).2) := by
      intro i hin
      have := (hel i hin).choose_spec
      simp only [F, dif_pos hin]
      exact this
    refine ⟨some a, len, m, (List.range len).map F, rfl, ⟨by simp, fun hn => ?_⟩⟩
    obtain ⟨h0, _⟩ := hF 0 hn
    have hb := World.block_lt_of_cell? w (a.add (0 * 2)) h0
    have hs := World.cell?_spot h0
    rw [blk_addC] at hb
    have hsp : a.spot = none := by simpa [Addr.add] using hs
    obtain ⟨ab, ao, asp⟩ := a
    simp only at hsp
    subst hsp
    refine ⟨ab, ao, rfl, hb, fun i u hu j x hx => ?_⟩
    have hil := (List.getElem?_eq_some_iff.1 hu).1
    simp only [List.length_map, List.length_range] at hil
    obtain ⟨c0, c1⟩ := hF i hil
    rw [Addr.add_lit] at c0 c1
    rw [List.getElem?_map, List.getElem?_range hil] at hu
    simp only [Option.map_some, Option.some.injEq] at hu
    subst hu
    rw [← Nat.add_assoc] at c1
    rcases j with _ | _ | j
    · simp [encS2] at hx; subst hx; exact c0
    · simp [encS2] at hx; subst hx; exact c1
    · simp [encS2] at hx
theorem open_ef {cs : List Value} {x : DataW H × List MemPlace} {fuel : Nat} (h : DataW.trod enc Tryz.prog w 0 (fun _ => true) true fuel 23 cs = some x) : ∃ e : Ef, cs = [.int .i64 e.1, .int .i64 e.2.1, .int .i64 e.2.2] := by
  obtain ⟨xs, n, rfl, hx, hl, hlen, hf⟩ := DataW.trod_struct Tryz.underlying23 h
  rw [show Tryz.prog.cellsOf 23 = 3 from by kernel_rfl] at hl
  match cs, hl with
  | [v0, v1, v2], _ =>
    have h0 := hf 0 _ rfl; have h1 := hf 1 _ rfl; have h2 := hf 2 _ rfl
    match xs, hlen with
    | [x0, x1, x2], _ =>
      simp only [List.getElem?_cons_zero, List.getElem?_cons_succ, List.getElem_toArray, List.getElem_cons_zero, List.getElem_cons_succ] at h0 h1 h2
      rw [show Tryz.prog.cellsOf 3 = 1 from by kernel_rfl] at h0 h1 h2
      simp only [List.drop_zero, List.drop_succ_cons, List.take_succ_cons, List.take_zero] at h0 h1 h2
      obtain ⟨a0, e0, -, -⟩ := DataW.trod_int Tryz.underlying3 h0
      obtain ⟨a1, e1, -, -⟩ := DataW.trod_int Tryz.underlying3 h1
      obtain ⟨a2, e2, -, -⟩ := DataW.trod_int Tryz.underlying3 h2
      simp only [List.cons.injEq, and_true] at e0 e1 e2
      exact ⟨(a0, a1, a2), by rw [e0, e1, e2]⟩
theorem open_rgc {cs : List Value} {x : DataW H × List MemPlace} {fuel : Nat} (h : DataW.trod enc Tryz.prog w 0 (fun _ => true) true fuel 25 cs = some x) : ∃ g : Rg, cs = [.string g.1, .string g.2] := by
  obtain ⟨xs, n, rfl, hx, hl, hlen, hf⟩ := DataW.trod_struct Tryz.underlying25 h
  rw [show Tryz.prog.cellsOf 25 = 2 from by kernel_rfl] at hl
  match cs, hl with
  | [v0, v1], _ =>
    have h0 := hf 0 _ rfl; have h1 := hf 1 _ rfl
    match xs, hlen with
    | [x0, x1], _ =>
      simp only [List.getElem?_cons_zero, List.getElem?_cons_succ, List.getElem_toArray, List.getElem_cons_zero, List.getElem_cons_succ] at h0 h1
      rw [show Tryz.prog.cellsOf 9 = 1 from by kernel_rfl] at h0 h1
      simp only [List.drop_zero, List.drop_succ_cons, List.take_succ_cons, List.take_zero] at h0 h1
      obtain ⟨a0, e0, -, -⟩ := DataW.trod_string Tryz.underlying9 h0
      obtain ⟨a1, e1, -, -⟩ := DataW.trod_string Tryz.underlying9 h1
      simp only [List.cons.injEq, and_true] at e0 e1
      exact ⟨(a0, a1), by rw [e0, e1]⟩
theorem open_defc {cs : List Value} {x : DataW H × List MemPlace} {fuel : Nat} (h : DataW.trod enc Tryz.prog w 0 (fun _ => true) true fuel 28 cs = some x) : ∃ nm dr dd A n c l, cs = [.string nm, .int .i64 dr, .int .i64 dd, .slice A n c] ∧ SS2 w A n l := by
  obtain ⟨xs, n, rfl, hx, hl, hlen, hf⟩ := DataW.trod_struct Tryz.underlying28 h
  rw [show Tryz.prog.cellsOf 28 = 4 from by kernel_rfl] at hl
  match cs, hl with
  | [v0, v1, v2, v3], _ =>
    have h0 := hf 0 _ rfl; have h1 := hf 1 _ rfl; have h2 := hf 2 _ rfl; have h3 := hf 3 _ rfl
    match xs, hlen with
    | [x0, x1, x2, x3], _ =>
      simp only [List.getElem?_cons_zero, List.getElem?_cons_succ, List.getElem_toArray, List.getElem_cons_zero, List.getElem_cons_succ] at h0 h1 h2 h3
      rw [show Tryz.prog.cellsOf 9 = 1 from by kernel_rfl] at h0
      rw [show Tryz.prog.cellsOf 3 = 1 from by kernel_rfl] at h1 h2
      rw [show Tryz.prog.cellsOf 26 = 1 from by kernel_rfl] at h3
      simp only [List.drop_zero, List.drop_succ_cons, List.take_succ_cons, List.take_zero] at h0 h1 h2 h3
      obtain ⟨a0, e0, -, -⟩ := DataW.trod_string Tryz.underlying9 h0
      obtain ⟨a1, e1, -, -⟩ := DataW.trod_int Tryz.underlying3 h1
      obtain ⟨a2, e2, -, -⟩ := DataW.trod_int Tryz.underlying3 h2
      obtain ⟨A3, n3, c3, l3, e3, hS3⟩ := open_steps2 h3
      simp only [List.cons.injEq, and_true] at e0 e1 e2 e3
      exact ⟨a0, a1, a2, A3, n3, c3, l3, by rw [e0, e1, e2, e3], hS3⟩
theorem open_item {cs : List Value} {x : DataW H × List MemPlace} {fuel : Nat} (h : DataW.trod enc Tryz.prog w 0 (fun _ => true) true fuel 30 cs = some x) : ∃ (ie : Ef) (im : Int) (ii : Bool) (ig : Int), cs = [.int .i64 ie.1, .int .i64 ie.2.1, .int .i64 ie.2.2, .int .i64 im, .bool ii, .int .i64 ig] := by
  obtain ⟨xs, n, rfl, hx, hl, hlen, hf⟩ := DataW.trod_struct Tryz.underlying30 h
  rw [show Tryz.prog.cellsOf 30 = 6 from by kernel_rfl] at hl
  match cs, hl with
  | [v0, v1, v2, v3, v4, v5], _ =>
    have h0 := hf 0 _ rfl; have h1 := hf 1 _ rfl; have h2 := hf 2 _ rfl; have h3 := hf 3 _ rfl
    match xs, hlen with
    | [x0, x1, x2, x3], _ =>
      simp only [List.getElem?_cons_zero, List.getElem?_cons_succ, List.getElem_toArray, List.getElem_cons_zero, List.getElem_cons_succ] at h0 h1 h2 h3
      rw [show Tryz.prog.cellsOf 23 = 3 from by kernel_rfl] at h0
      rw [show Tryz.prog.cellsOf 3 = 1 from by kernel_rfl] at h1 h3
      rw [show Tryz.prog.cellsOf 4 = 1 from by kernel_rfl] at h2
      simp only [List.drop_zero, List.drop_succ_cons, List.take_succ_cons, List.take_zero] at h0 h1 h2 h3
      obtain ⟨f0, e0⟩ := open_ef h0
      obtain ⟨a1, e1, -, -⟩ := DataW.trod_int Tryz.underlying3 h1
      obtain ⟨a2, e2, -⟩ := DataW.trod_bool Tryz.underlying4 h2
      obtain ⟨a3, e3, -, -⟩ := DataW.trod_int Tryz.underlying3 h3
      simp only [List.cons.injEq, and_true] at e0 e1 e2 e3
      exact ⟨f0, a1, a2, a3, by rw [e0.1, e0.2.1, e0.2.2, e1, e2, e3]⟩
theorem open_cmdc {cs : List Value} {x : DataW H × List MemPlace} {fuel : Nat} (h : DataW.trod enc Tryz.prog w 0 (fun _ => true) true fuel 33 cs = some x) : ∃ (c : Cd) (l : List (ByteArray × Int)), cs = (cdV c).toList ∧ SS2 w c.dA c.dl' l := by
  obtain ⟨xs, n, rfl, hx, hl, hlen, hf⟩ := DataW.trod_struct Tryz.underlying33 h
  rw [show Tryz.prog.cellsOf 33 = 24 from by kernel_rfl] at hl
  match cs, hl with
  | [v0, v1, v2, v3, v4, v5, v6, v7, v8, v9, v10, v11, v12, v13, v14, v15, v16, v17, v18, v19, v20, v21, v22, v23], _ =>
    have h0 := hf 0 _ rfl; have h1 := hf 1 _ rfl; have h2 := hf 2 _ rfl; have h3 := hf 3 _ rfl; have h4 := hf 4 _ rfl; have h5 := hf 5 _ rfl; have h6 := hf 6 _ rfl; have h7 := hf 7 _ rfl; have h8 := hf 8 _ rfl; have h9 := hf 9 _ rfl; have h10 := hf 10 _ rfl; have h11 := hf 11 _ rfl; have h12 := hf 12 _ rfl
    match xs, hlen with
    | [x0, x1, x2, x3, x4, x5, x6, x7, x8, x9, x10, x11, x12], _ =>
      simp only [List.getElem?_cons_zero, List.getElem?_cons_succ, List.getElem_toArray, List.getElem_cons_zero, List.getElem_cons_succ] at h0 h1 h2 h3 h4 h5 h6 h7 h8 h9 h10 h11 h12
      rw [show Tryz.prog.cellsOf 3 = 1 from by kernel_rfl] at h0 h1 h2 h6 h8
      rw [show Tryz.prog.cellsOf 23 = 3 from by kernel_rfl] at h3
      rw [show Tryz.prog.cellsOf 9 = 1 from by kernel_rfl] at h4 h12
      rw [show Tryz.prog.cellsOf 2 = 1 from by kernel_rfl] at h5
      rw [show Tryz.prog.cellsOf 25 = 2 from by kernel_rfl] at h7
      rw [show Tryz.prog.cellsOf 28 = 4 from by kernel_rfl] at h9
      rw [show Tryz.prog.cellsOf 30 = 6 from by kernel_rfl] at h10
      rw [show Tryz.prog.cellsOf 31 = 1 from by kernel_rfl] at h11
      simp only [List.drop_zero, List.drop_succ_cons, List.take_succ_cons, List.take_zero] at h0 h1 h2 h3 h4 h5 h6 h7 h8 h9 h10 h11 h12
      obtain ⟨a0, e0, -, -⟩ := DataW.trod_int Tryz.underlying3 h0
      obtain ⟨a1, e1, -, -⟩ := DataW.trod_int Tryz.underlying3 h1
      obtain ⟨a2, e2, -, -⟩ := DataW.trod_int Tryz.underlying3 h2
      obtain ⟨f3, e3⟩ := open_ef h3
      obtain ⟨a4, e4, -, -⟩ := DataW.trod_string Tryz.underlying9 h4
      obtain ⟨a5, e5, -, -⟩ := DataW.trod_int Tryz.underlying2 h5
      obtain ⟨a6, e6, -, -⟩ := DataW.trod_int Tryz.underlying3 h6
      obtain ⟨g7, e7⟩ := open_rgc h7
      obtain ⟨a8, e8, -, -⟩ := DataW.trod_int Tryz.underlying3 h8
      obtain ⟨nm9, dr9, dd9, A9, n9, c9, l9, e9, hS9⟩ := open_defc h9
      obtain ⟨ie10, im10, ii10, ig10, e10⟩ := open_item h10
      obtain ⟨a11, e11, -, -⟩ := DataW.trod_int Tryz.underlying31 h11
      obtain ⟨a12, e12, -, -⟩ := DataW.trod_string Tryz.underlying9 h12
      simp only [List.cons.injEq, and_true] at e0 e1 e2 e3 e4 e5 e6 e7 e8 e9 e10 e11 e12
      exact ⟨{ k := a0, call := a1, saga := a2, e := f3, key := a4, dl := a5, mv := a6, r := g7, gr := a8, dn := nm9, dr := dr9, dd := dd9, dA := A9, dl' := n9, dc := c9, ie := ie10, im := im10, ii := ii10, ig := ig10, res := a11, dat := a12 }, l9, by simp only [cdV, e0, e1, e2, e3, e4, e5, e6, e7, e8, e9, e10, e11, e12], hS9⟩
theorem open_cmd {v : Value} {d : DataW H} {p : List MemPlace} (hval : Value.okWide Tryz.prog w r b0 33 v) (h : DataW.Trod enc Tryz.prog w 0 (fun _ => true) true 33 v d p) : ∃ (c : Cd) (l : List (ByteArray × Int)), v = .agg (cdV c) ∧ SS2 w c.dA c.dl' l := by
  obtain ⟨cs, rfl, hsz⟩ := okWide_struct Tryz.underlying33 hval
  obtain ⟨fuel, hf0⟩ := h
  have hf1 : DataW.trod enc Tryz.prog w 0 (fun _ => true) true fuel 33 cs.toList = some (d, p) := hf0
  obtain ⟨c, l, hc, hS⟩ := open_cmdc hf1
  exact ⟨c, l, by rw [show cs = cdV c from Array.toList_inj.1 hc], hS⟩
end
end Go.Proofs.YtkpfkabdodnooaaGreatDoor
