/- Arguments that are slices: of structs of one-cell fields (any number of them), of bytes; what the form's own reach says of them. No program in sight. -/
import Derived.Test.YtlinjanflenljaaGreatDoorRows
import Derived.Deep.Slices
import Derived.Deep.Fields
import Derived.ChangeSame
import Derived.SizedLaws
import Derived.OpenShut
import Derived.ChangeSlices
import Derived.Test.YtlinjanflenljaaGreatDoorWB
import Derived.Lib.SmallJoins
import Derived.ChangeOld
import Derived.Deep.Strs
import Derived.Test.YtlinjanflenljaaGreatDoorRead
namespace Go.Proofs.YtlinjanflenljaaGreatDoor
open Go.ChangeShapes Go.WideShapes Go.Deep
section
variable {H : Type} {enc : TypeId × Value → H} {P : Program} {w : World} {base : Nat} {spare : Nat → Bool} {held : Bool}
theorem open_slice_fields {t e : TypeId} {fs : Array Field} {fuel : Nat} {cs : List Value} {x : DataW H × List MemPlace} (ht : P.underlying t = some (.slice e)) (he : P.underlying e = some (.struct fs))
    (hone : oneCellFields P fs = true) (hC : P.cellsOf e = fs.size) (h : DataW.trod enc P w base spare held fuel t cs = some x) :
    (cs = [.slice none 0 0] ∧ x = (.nil, [])) ∨
    ∃ (a : Addr) (len cap m : Nat) (D : Nat → DataW H) (Pl : Nat → List MemPlace), cs = [.slice (some a) len cap] ∧ base ≤ a.block ∧ len ≤ cap ∧ cap ≤ maxLen ∧ m = (if spare a.block then cap else len) ∧
      x = (.slice ((List.range len).map D) ((List.range (m - len)).map fun j => D (len + j)), MemPlace.row a (m * fs.size) ++ (List.range m).flatMap Pl) ∧
      ∀ i, i < m → ∃ (ys : List (DataW H × List MemPlace)) (n : Nat), D i = .agg (ys.map (·.1)) ∧ Pl i = ys.flatMap (·.2) ∧ ys.length = fs.size ∧
        ∀ (j : Nat) (f : Field), fs[j]? = some f → ∃ (v : Value) (y : DataW H × List MemPlace), w.cell? (a.add (i * fs.size + j)) = some v ∧ ys[j]? = some y ∧ DataW.trod enc P w base spare held n f.type [v] = some y := by
  rcases open_slice ht h with h0 | ⟨a, len, cap, m, n, D, Pl, hcs, hb, hl, hm, hmm, hx, hi⟩
  · exact .inl h0
  · refine .inr ⟨a, len, cap, m, D, Pl, hcs, hb, hl, hm, hmm, by rw [hC] at hx; exact hx, fun i him => ?_⟩
    obtain ⟨cs', hc, ht'⟩ := hi i him
    rw [hC] at hc
    obtain ⟨ys, n', hn', hy, hlen, hyl, hf⟩ := DataW.trod_struct he ht'
    obtain ⟨_, hcl, hat⟩ := World.cells?_some hc
    simp only [Prod.mk.injEq] at hy
    refine ⟨ys, n', hy.1, hy.2, hyl, fun j f hj => ?_⟩
    obtain ⟨ho, hk⟩ := hone_of hone j f hj
    have hjl : j < fs.size := (Array.getElem?_eq_some_iff.1 hj).1
    have hcell := hat j hjl
    have hv : cs'[j]? = some (cs'[j]'(by omega)) := List.getElem?_eq_getElem (by omega)
    have h1 := hf j f hj
    rw [ho, hk] at h1
    have hone' : (cs'.drop j).take 1 = [cs'[j]'(by omega)] := by
      rw [List.drop_eq_getElem_cons (by omega)]
      rfl
    rw [hone'] at h1
    have hys : ys[j]? = some (ys[j]'(by omega)) := List.getElem?_eq_getElem (by omega)
    refine ⟨_, _, ?_, hys, h1.trans hys⟩
    rw [← Go.Deep.add_add, hcell, hv]
end
theorem weights_all_mem {H : Type} {P : Program} {e : TypeId} {ds : List (DataW H)} {d : DataW H} (h : d ∈ ds) {n : Nat} (hn : n ∈ d.weights P e) : n ∈ DataW.weightsAll P e ds := by
  induction ds with
  | nil => cases h
  | cons d0 ds ih =>
    simp only [DataW.weightsAll, List.mem_append]
    rcases List.mem_cons.1 h with rfl | h
    · exact .inl hn
    · exact .inr (ih h)
/-- What the reach says of one argument. -/
def Weighs {H : Type} (P : Program) (t : TypeId) (d : DataW H) : Prop := ∀ n ∈ d.weights P t, n ≤ reachBytes
theorem weighs_of {H : Type} {P : Program} {ts : List TypeId} {ds : List (DataW H)} (h : (DataW.weightsEach P ts ds).all (· ≤ reachBytes) = true) (j : Nat) {t : TypeId} {d : DataW H} (ht : ts[j]? = some t) (hd : ds[j]? = some d) : Weighs P t d :=
  fun n hn => by simpa using List.all_eq_true.1 h n (DataW.weights_mem_each ht hd n hn)
end Go.Proofs.YtlinjanflenljaaGreatDoor

namespace Go.Proofs.YtlinjanflenljaaGreatDoor
open Go.RowKit
set_option linter.unusedSimpArgs false
set_option linter.unusedVariables false
set_option linter.unusedSectionVars false
set_option maxRecDepth 10000
theorem sOf_data (a : ByteArray) : sOf a.data.toList = a := by
  apply ByteArray.ext
  simp [sOf]
theorem blk_addM (a : Addr) (n : Nat) : (a.add n).block = a.block := by
  unfold Addr.add; split <;> rfl
/-- A message as an argument. -/
structure IsM (w : World) (m : Mg) (A : Option Addr) (c : Nat) : Prop where
  es : ES w A m.l.length m.l
  n : m.l.length ≤ 3518437208883
  v : m.v.length ≤ 140737488355328
  vs : ∀ e ∈ m.l, e.v.length ≤ 140737488355328
theorem IsM.keep {w w' : World} {m : Mg} {A : Option Addr} {c : Nat} (h : IsM w m A c) (hb : Below w.heap.size w w') : IsM w' m A c := ⟨SL.keep h.es hb, h.n, h.v, h.vs⟩
open Go.ChangeShapes Go.WideShapes Go.Deep Go.Joins
section
variable {H : Type} {enc : TypeId × Value → H} {w : World} {r : Reach} {b0 : Nat}
theorem open_ent {cs : List Value} {x : DataW H × List MemPlace} {fuel : Nat} (h : DataW.trod enc Tryz.prog w 0 (fun _ => true) true fuel 45 cs = some x) (hw : Weighs Tryz.prog 45 x.1) :
    ∃ e : Ent, cs = encEnt e ∧ e.v.length ≤ 140737488355328 := by
  obtain ⟨xs, n, rfl, rfl, hl, hlen, hf⟩ := DataW.trod_struct Tryz.underlying45 h
  rw [show Tryz.prog.cellsOf 45 = 4 from by kernel_rfl] at hl
  match cs, hl with
  | [v0, v1, v2, v3], _ =>
    have h0 := hf 0 _ rfl; have h1 := hf 1 _ rfl; have h2 := hf 2 _ rfl
    match xs, hlen with
    | [x0, x1, x2], _ =>
      simp only [List.getElem?_cons_zero, List.getElem?_cons_succ, List.getElem_toArray, List.getElem_cons_zero, List.getElem_cons_succ] at h0 h1 h2
      rw [show Tryz.prog.cellsOf 3 = 1 from by kernel_rfl] at h0
      rw [show Tryz.prog.cellsOf 25 = 2 from by kernel_rfl] at h1
      rw [show Tryz.prog.cellsOf 9 = 1 from by kernel_rfl] at h2
      simp only [List.drop_zero, List.drop_succ_cons, List.take_succ_cons, List.take_zero] at h0 h1 h2
      obtain ⟨a0, q0, p0, -⟩ := DataW.trod_int Tryz.underlying3 h0
      obtain ⟨a3, q3, p3, -⟩ := DataW.trod_string Tryz.underlying9 h2
      obtain ⟨g0, g1, n4, hg, -, k0, k1⟩ := trod_struct2 Tryz.underlying25 h1
      rw [show Tryz.prog.cellsOf 3 = 1 from by kernel_rfl] at k0 k1
      simp only [List.drop_zero, List.drop_succ_cons, List.take_succ_cons, List.take_zero] at k0 k1
      obtain ⟨a1, q1, p1, -⟩ := DataW.trod_int Tryz.underlying3 k0
      obtain ⟨a2, q2, p2, -⟩ := DataW.trod_int Tryz.underlying3 k1
      simp only [List.cons.injEq, and_true] at q0 q1 q2 q3
      subst q0 q1 q2 q3
      have hr := reachBytes_lt
      refine ⟨⟨a0, a1, a2, a3.data.toList⟩, by simp only [encEnt, sOf_data], ?_⟩
      have : a3.data.toList.length ≤ reachBytes := hw _ (by
        simp only [DataW.weights, Tryz.underlying45]
        refine DataW.weights_mem_each (j := 2) (d := .lit (.string a3.data.toList)) rfl ?_ _ (by simp [DataW.weights])
        rw [p3]; rfl)
      show a3.data.toList.length ≤ _
      omega
theorem open_ents {v : Value} {d : DataW H} {p : List MemPlace} {fuel : Nat} (hf : DataW.trod enc Tryz.prog w 0 (fun _ => true) true fuel 26 [v] = some (d, p)) (hw : Weighs Tryz.prog 26 d) :
    ∃ A n c l, v = .slice A n c ∧ ES w A n l ∧ n ≤ 3518437208883 ∧ ∀ e ∈ l, e.v.length ≤ 140737488355328 := by
  rcases open_slice Tryz.underlying26 hf with ⟨hcs, hx⟩ | ⟨a, n, cap, m, q, D, Pl, hcs, _, hl, hm, hmm, hx, hi⟩
  · simp only [List.cons.injEq, and_true] at hcs
    subst hcs
    exact ⟨none, 0, 0, [], rfl, SL.nil _ _, by omega, by simp⟩
  · simp only [List.cons.injEq, and_true] at hcs
    subst hcs
    simp only [Prod.mk.injEq] at hx
    obtain ⟨rfl, rfl⟩ := hx
    simp only [if_true] at hmm
    subst hmm
    have hr := reachBytes_lt
    have hC : Tryz.prog.cellsOf 45 = 4 := by kernel_rfl
    rw [hC] at hi
    have hsz : n ≤ 3518437208883 := by
      have hwn := hw ((((List.range n).map D).length + ((List.range (m - n)).map fun j => D (n + j)).length) * Tryz.prog.bytesOf 45) (by
        simp only [DataW.weights, Tryz.underlying26]
        exact List.mem_cons_self ..)
      rw [show Tryz.prog.bytesOf 45 = 40 from by kernel_rfl] at hwn
      simp only [List.length_map, List.length_range] at hwn
      omega
    have hel : ∀ i, i < n → ∃ s : Ent, s.v.length ≤ 140737488355328 ∧ ∀ (j : Nat) (u : Value), (encEnt s)[j]? = some u → w.cell? (a.add (i * 4 + j)) = some u := by
      intro i hin
      obtain ⟨cs', hc, ht⟩ := hi i (by omega)
      obtain ⟨_, hcl, hat⟩ := World.cells?_some hc
      obtain ⟨s, rfl, hok⟩ := open_ent ht (fun k hk => hw k (by
        simp only [DataW.weights, Tryz.underlying26]
        exact List.mem_cons_of_mem _ (List.mem_append.2 (.inl (weights_all_mem (d := D i) (List.mem_map.2 ⟨i, List.mem_range.2 hin, rfl⟩) hk)))))
      refine ⟨s, hok, fun j u hu => ?_⟩
      have hj : j < 4 := by have := (List.getElem?_eq_some_iff.1 hu).1; rwa [encEnt_len] at this
      rw [← Go.Deep.add_add, hat j hj, hu]
    let F : Nat → Ent := fun i => if hin : i < n then (hel i hin).choose else ⟨0, 0, 0, []⟩
    have hF : ∀ i (hin : i < n), (F i).v.length ≤ 140737488355328 ∧ ∀ (j : Nat) (u : Value), (encEnt (F i))[j]? = some u → w.cell? (a.add (i * 4 + j)) = some u := by
      intro i hin
      have := (hel i hin).choose_spec
      simp only [F, dif_pos hin]
      exact this
    refine ⟨some a, n, m, (List.range n).map F, rfl, ⟨by simp, fun hn => ?_⟩, hsz, fun x hx => ?_⟩
    · have h0 := (hF 0 hn).2 0 _ rfl
      have hb := World.block_lt_of_cell? w (a.add (0 * 4 + 0)) h0
      have hs := World.cell?_spot h0
      rw [blk_addM] at hb
      have hsp : a.spot = none := by simpa [Addr.add] using hs
      obtain ⟨ab, ao, asp⟩ := a
      simp only at hsp
      subst hsp
      refine ⟨ab, ao, rfl, hb, fun i u hu j x hx => ?_⟩
      have hil := (List.getElem?_eq_some_iff.1 hu).1
      simp only [List.length_map, List.length_range] at hil
      rw [List.getElem?_map, List.getElem?_range hil] at hu
      simp only [Option.map_some, Option.some.injEq] at hu
      subst hu
      have := (hF i hil).2 j x hx
      rw [Addr.add_lit, ← Nat.add_assoc] at this
      exact this
    · obtain ⟨i, hi2, rfl⟩ := List.mem_map.1 hx
      exact (hF i (List.mem_range.1 hi2)).1
theorem open_msg {v : Value} {d : DataW H} {p : List MemPlace} (hval : Value.okWide Tryz.prog w r b0 28 v) (h : DataW.Trod enc Tryz.prog w 0 (fun _ => true) true 28 v d p) (hw : Weighs Tryz.prog 28 d) :
    ∃ m A c, v = .agg #[.int .i64 m.k, .int .i64 m.fr, .int .i64 m.tt, .int .i64 m.ro, .int .i64 m.no, .int .i64 m.sl, .int .i64 m.nu, .string (sOf m.v), .slice A m.l.length c] ∧ IsM w m A c := by
  obtain ⟨cs, rfl, hsz⟩ := okWide_struct Tryz.underlying28 hval
  obtain ⟨fuel, hf0⟩ := h
  have hf1 : DataW.trod enc Tryz.prog w 0 (fun _ => true) true fuel 28 cs.toList = some (d, p) := hf0
  obtain ⟨l⟩ := cs
  obtain ⟨xs, n, rfl, hp, hl, hlen, hf⟩ := DataW.trod_struct Tryz.underlying28 hf1
  obtain ⟨hd, -⟩ := Prod.mk.inj hp
  rw [show Tryz.prog.cellsOf 28 = 9 from by kernel_rfl] at hl
  match l, hl with
  | [v0, v1, v2, v3, v4, v5, v6, v7, v8], _ =>
    have h0 := hf 0 _ rfl; have h1 := hf 1 _ rfl; have h2 := hf 2 _ rfl; have h3 := hf 3 _ rfl; have h4 := hf 4 _ rfl; have h5 := hf 5 _ rfl; have h6 := hf 6 _ rfl; have h7 := hf 7 _ rfl
    match xs, hlen with
    | [x0, x1, x2, x3, x4, x5, x6, x7], _ =>
      simp only [List.getElem?_cons_zero, List.getElem?_cons_succ, List.getElem_toArray, List.getElem_cons_zero, List.getElem_cons_succ] at h0 h1 h2 h3 h4 h5 h6 h7
      rw [show Tryz.prog.cellsOf 3 = 1 from by kernel_rfl] at h0 h1 h2 h4 h5
      rw [show Tryz.prog.cellsOf 25 = 2 from by kernel_rfl] at h3
      rw [show Tryz.prog.cellsOf 9 = 1 from by kernel_rfl] at h6
      rw [show Tryz.prog.cellsOf 26 = 1 from by kernel_rfl] at h7
      simp only [List.drop_zero, List.drop_succ_cons, List.take_succ_cons, List.take_zero] at h0 h1 h2 h3 h4 h5 h6 h7
      obtain ⟨a0, q0, p0, -⟩ := DataW.trod_int Tryz.underlying3 h0
      obtain ⟨a1, q1, p1, -⟩ := DataW.trod_int Tryz.underlying3 h1
      obtain ⟨a2, q2, p2, -⟩ := DataW.trod_int Tryz.underlying3 h2
      obtain ⟨a5, q5, p5, -⟩ := DataW.trod_int Tryz.underlying3 h4
      obtain ⟨a6, q6, p6, -⟩ := DataW.trod_int Tryz.underlying3 h5
      obtain ⟨a7, q7, p7, -⟩ := DataW.trod_string Tryz.underlying9 h6
      obtain ⟨g0, g1, n4, hg, -, k0, k1⟩ := trod_struct2 Tryz.underlying25 h3
      rw [show Tryz.prog.cellsOf 3 = 1 from by kernel_rfl] at k0 k1
      simp only [List.drop_zero, List.drop_succ_cons, List.take_succ_cons, List.take_zero] at k0 k1
      obtain ⟨a3, q3, p3, -⟩ := DataW.trod_int Tryz.underlying3 k0
      obtain ⟨a4, q4, p4, -⟩ := DataW.trod_int Tryz.underlying3 k1
      simp only [List.cons.injEq, and_true] at q0 q1 q2 q3 q4 q5 q6 q7
      subst q0 q1 q2 q3 q4 q5 q6 q7
      have hr := reachBytes_lt
      have hw7 : Weighs Tryz.prog 26 x7.1 := fun k hk => hw k (by
        rw [hd]
        simp only [DataW.weights, Tryz.underlying28]
        exact DataW.weights_mem_each (j := 7) (d := x7.1) rfl rfl k hk)
      obtain ⟨A, nn, c, le, rfl, hE, hnn, hvs⟩ := open_ents (d := x7.1) (p := x7.2) h7 hw7
      have hv : a7.data.toList.length ≤ reachBytes := hw _ (by
        rw [hd]
        simp only [DataW.weights, Tryz.underlying28]
        refine DataW.weights_mem_each (j := 6) (d := .lit (.string a7.data.toList)) rfl ?_ _ (by simp [DataW.weights])
        rw [p7]; rfl)
      have hnl := hE.1
      subst hnl
      refine ⟨⟨a0, a1, a2, a3, a4, a5, a6, a7.data.toList, le⟩, A, c, ?_, ⟨hE, hnn, ?_, hvs⟩⟩
      · simp only [sOf_data]
      · show a7.data.toList.length ≤ _
        omega
end
end Go.Proofs.YtlinjanflenljaaGreatDoor

namespace Go.Proofs.YtlinjanflenljaaGreatDoor
open Go.RowKit
set_option linter.unusedSimpArgs false
set_option linter.unusedVariables false
set_option linter.unusedSectionVars false
set_option maxRecDepth 10000
open Go.ChangeShapes Go.WideShapes Go.Deep Go.Joins
theorem u8_of {n : Int} (h : (Lit.int .u8 n).wf = true) : 0 ≤ n ∧ n ≤ 255 := by
  simp [Lit.wf, IntKind.min, IntKind.max, IntKind.signed, IntKind.bits] at h; omega
theorem u16_of {n : Int} (h : (Lit.int .u16 n).wf = true) : 0 ≤ n ∧ n ≤ 65535 := by
  simp [Lit.wf, IntKind.min, IntKind.max, IntKind.signed, IntKind.bits] at h; omega
section
variable {H : Type} {enc : TypeId × Value → H} {w : World} {r : Reach} {b0 : Nat}
theorem open_bytes {v : Value} {d : DataW H} {p : List MemPlace} (hval : Value.okWide Tryz.prog w r b0 22 v) (h : DataW.Trod enc Tryz.prog w 0 (fun _ => true) true 22 v d p) (hw : Weighs Tryz.prog 22 d) :
    ∃ A n c xs, v = .slice A n c ∧ RB w A n xs ∧ n ≤ c ∧ n ≤ 140737488355328 := by
  obtain ⟨A, n, c, rfl⟩ := okWide_slice Tryz.underlying22 hval
  obtain ⟨fuel, hf⟩ := h
  rcases open_ints Tryz.underlying22 Tryz.underlying5 (by kernel_rfl) hf with ⟨hcs, hx⟩ | ⟨a, len, cap, zs, hcs, _, hl, hm, hz, hx, hcell, hwz⟩
  · simp [Value.cells] at hcs
    obtain ⟨rfl, rfl, rfl⟩ := hcs
    exact ⟨none, 0, 0, [], rfl, ⟨rfl, fun h => absurd h (by omega)⟩, by omega, by omega⟩
  · simp [Value.cells] at hcs
    obtain ⟨rfl, rfl, rfl⟩ := hcs
    simp only [Prod.mk.injEq] at hx
    obtain ⟨rfl, rfl⟩ := hx
    simp only [if_true] at hz
    have hwn := hw ((lits IntKind.u8 (zs.take n) : List (DataW H)).length + (lits IntKind.u8 (zs.drop n) : List (DataW H)).length) (by
      simp only [DataW.weights, Tryz.underlying22]
      rw [show Tryz.prog.bytesOf 5 = 1 from by kernel_rfl, Nat.mul_one]
      exact List.mem_cons_self ..)
    have hr := reachBytes_lt
    simp only [lits, List.length_map, List.length_take, List.length_drop] at hwn
    refine ⟨some a, n, c, (zs.take n).map fun z => UInt8.ofNat z.toNat, rfl, ⟨by simp; omega, fun hn => ⟨a, rfl, ?_, fun j u hu => ?_⟩⟩, hl, by omega⟩
    · have h0 := hcell 0 (by omega)
      have := World.block_lt_of_cell? w (a.add 0) h0
      rwa [block_of_add] at this
    · simp only [bvs, List.map_map, List.getElem?_map, Option.map_eq_some_iff] at hu
      obtain ⟨z, hz1, rfl⟩ := hu
      have hjz : zs[j]? = some z := by
        rw [List.getElem?_take] at hz1
        split at hz1
        · exact hz1
        · cases hz1
      have hj := (List.getElem?_eq_some_iff.1 hjz).1
      rw [hcell j hj]
      have hzz := u8_of (hwz z (List.mem_of_getElem? hjz))
      simp only [Function.comp, bv, List.getD, hjz, Option.getD_some]
      rw [ofNat_toNat (by omega)]
      congr 2
      omega
end
end Go.Proofs.YtlinjanflenljaaGreatDoor
