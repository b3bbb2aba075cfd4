/- A definition as an argument. -/
import Derived.Test.YthmkfbabacehnaaDoorOpens
import Derived.Test.YthmkfbabacehnaaDoorOpenE
import Derived.Test.YthmkfbabacehnaaDoorDefnK
import Derived.Lib.SmallJoins
import Derived.ChangeOld
namespace Go.Proofs.YthmkfbabacehnaaDoor
open Go.RowKit Go.Shelf
set_option linter.unusedSimpArgs false
set_option linter.unusedVariables false
set_option linter.unusedSectionVars false
set_option maxRecDepth 10000
open Go.ChangeShapes Go.WideShapes Go.Deep Go.Joins
theorem i64_of {n : Int} (h : (Lit.int .i64 n).wf = true) : -9223372036854775808 ≤ n ∧ n ≤ 9223372036854775807 := by
  simp [Lit.wf, IntKind.min, IntKind.max, IntKind.signed, IntKind.bits] at h; omega
theorem u8_of {n : Int} (h : (Lit.int .u8 n).wf = true) : 0 ≤ n ∧ n < 256 := by
  simp [Lit.wf, IntKind.min, IntKind.max, IntKind.signed, IntKind.bits] at h; omega
section
variable {H : Type} {enc : TypeId × Value → H} {w : World} {r : Reach} {b0 : Nat}
theorem open_steps {v : Value} {d : DataW H} {p : List MemPlace} {fuel : Nat} (hf : DataW.trod enc Tryd.prog w 0 (fun _ => true) true fuel 22 [v] = some (d, p)) (hw : Weighs Tryd.prog 22 d) :
    ∃ A n c l, v = .slice A n c ∧ SS w A n l ∧ n ≤ c ∧ n ≤ 70368744177664 ∧ ∀ x ∈ l, x.1.size ≤ 140737488355328 := by
  rcases open_slice_fields Tryd.underlying22 Tryd.underlying41 (by kernel_rfl) (by kernel_rfl) hf with ⟨hcs, hx⟩ | ⟨a, len, cap, m, D, Pl, hcs, _, hl, hm, hmm, hx, hi⟩
  · simp only [List.cons.injEq, and_true] at hcs
    subst hcs
    exact ⟨none, 0, 0, [], rfl, SL.nil _ _, by omega, by omega, by simp⟩
  · simp only [List.cons.injEq, and_true] at hcs
    subst hcs
    simp only [Prod.mk.injEq] at hx
    obtain ⟨rfl, rfl⟩ := hx
    simp only [if_true] at hmm
    subst hmm
    have hr := reachBytes_lt
    have hsz : len ≤ 70368744177664 := by
      have hwn := hw ((((List.range len).map D).length + ((List.range (m - len)).map fun j => D (len + j)).length) * Tryd.prog.bytesOf 41) (by
        simp only [DataW.weights, Tryd.underlying22]
        exact List.mem_cons_self ..)
      rw [show Tryd.prog.bytesOf 41 = 24 from by kernel_rfl] at hwn
      simp only [List.length_map, List.length_range] at hwn
      omega
    have hel : ∀ i, i < len → ∃ u : St, u.1.size ≤ 140737488355328 ∧ w.cell? (a.add (i * 2)) = some (.string u.1) ∧ w.cell? (a.add (i * 2 + 1)) = some (.int .i64 u.2) := by
      intro i hin
      obtain ⟨ys, q, hD, _, hyl, hfs⟩ := hi i (by omega)
      obtain ⟨v0, y0, hc0, hy0, t0⟩ := hfs 0 _ rfl
      obtain ⟨v1, y1, hc1, hy1, t1⟩ := hfs 1 _ rfl
      obtain ⟨a0, e0, x0, w0⟩ := DataW.trod_string Tryd.underlying9 t0
      obtain ⟨a1, e1, x1, w1⟩ := DataW.trod_int Tryd.underlying2 t1
      simp only [List.cons.injEq, and_true] at e0 e1
      subst e0 e1
      refine ⟨(a0, a1), ?_, hc0, hc1⟩
      have hmem : a0.data.toList.length ∈ (DataW.slice ((List.range len).map D) ((List.range (m - len)).map fun j => D (len + j))).weights Tryd.prog 22 := by
        simp only [DataW.weights, Tryd.underlying22]
        refine List.mem_cons_of_mem _ (List.mem_append.2 (.inl (weights_all_mem (d := D i) (List.mem_map.2 ⟨i, List.mem_range.2 hin, rfl⟩) ?_)))
        rw [hD]
        simp only [DataW.weights, Tryd.underlying41]
        refine DataW.weights_mem_each (j := 0) (d := .lit (.string a0.data.toList)) rfl ?_ _ (by simp [DataW.weights])
        rw [List.getElem?_map, hy0, x0]
        rfl
      have := hw _ hmem
      rw [Array.length_toList] at this
      show a0.data.size ≤ _
      omega
    let F : Nat → St := fun i => if hin : i < len then (hel i hin).choose else (ByteArray.empty, 0)
    have hF : ∀ i (hin : i < len), (F i).1.size ≤ 140737488355328 ∧ w.cell? (a.add (i * 2)) = some (.string (F i).1) ∧ w.cell? (a.add (i * 2 + 1)) = some (.int .i64 (F i).2) := by
      intro i hin
      have := (hel i hin).choose_spec
      simp only [F, dif_pos hin]
      exact this
    refine ⟨some a, len, m, (List.range len).map F, rfl, ⟨by simp, fun hn => ?_⟩, hl, hsz, ?_⟩
    · obtain ⟨_, h0, _⟩ := hF 0 hn
      have hb := World.block_lt_of_cell? w (a.add (0 * 2)) h0
      have hs := World.cell?_spot h0
      rw [blk_add] at hb
      have hsp : a.spot = none := by simpa [Addr.add] using hs
      obtain ⟨ab, ao, asp⟩ := a
      simp only at hsp
      subst hsp
      refine ⟨ab, ao, rfl, hb, fun i u hu j x hx => ?_⟩
      have hil := (List.getElem?_eq_some_iff.1 hu).1
      simp only [List.length_map, List.length_range] at hil
      obtain ⟨_, c0, c1⟩ := hF i hil
      rw [Addr.add_lit] at c0 c1
      rw [List.getElem?_map, List.getElem?_range hil] at hu
      simp only [Option.map_some, Option.some.injEq] at hu
      subst hu
      rw [← Nat.add_assoc] at c1
      rcases j with _ | _ | j
      · simp [encSt] at hx; subst hx; exact c0
      · simp [encSt] at hx; subst hx; exact c1
      · simp [encSt] at hx
    · intro u hu
      obtain ⟨i, hi2, rfl⟩ := List.mem_map.1 hu
      exact (hF i (List.mem_range.1 hi2)).1
/-- A definition as an argument. -/
structure IsDef (w : World) (nm : ByteArray) (A : Option Addr) (n c : Nat) (l : List St) : Prop where
  nm : nm.size ≤ 140737488355328
  ss : SS w A n l
  cap : n ≤ c
  n : n ≤ 140737488355328
  keys : ∀ x ∈ l, x.1.size ≤ 140737488355328
theorem IsDef.keep {w w' : World} {nm : ByteArray} {A : Option Addr} {n c : Nat} {l : List St} (h : IsDef w nm A n c l) (hb : Below w.heap.size w w') : IsDef w' nm A n c l := ⟨h.nm, SL.keep h.ss hb, h.cap, h.n, h.keys⟩
theorem open_def {v : Value} {d : DataW H} {p : List MemPlace} (hval : Value.okWide Tryd.prog w r b0 24 v) (h : DataW.Trod enc Tryd.prog w 0 (fun _ => true) true 24 v d p) (hw : Weighs Tryd.prog 24 d) :
    ∃ nm r dl A n c l, v = .agg #[.string nm, .int .i64 r, .int .i64 dl, .slice A n c] ∧ IsDef w nm A n c l := by
  obtain ⟨v0, v1, v2, v3, y0, y1, y2, y3, m, rfl, rfl, rfl, t0, t1, t2, t3⟩ := open_agg4 Tryd.underlying24 (by kernel_rfl) (by kernel_rfl) hval h
  obtain ⟨nm, e0, x0, w0⟩ := DataW.trod_string Tryd.underlying9 t0
  obtain ⟨a1, e1, x1, w1⟩ := DataW.trod_int Tryd.underlying3 t1
  obtain ⟨a2, e2, x2, w2⟩ := DataW.trod_int Tryd.underlying3 t2
  simp only [List.cons.injEq, and_true] at e0 e1 e2
  subst e0 e1 e2
  have hr := reachBytes_lt
  have hnm : nm.data.toList.length ≤ reachBytes := hw _ (by
    simp only [DataW.weights, Tryd.underlying24]
    refine DataW.weights_mem_each (j := 0) (d := .lit (.string nm.data.toList)) rfl ?_ _ (by simp [DataW.weights])
    rw [x0]; rfl)
  have hw3 : Weighs Tryd.prog 22 y3.1 := fun k hk => hw k (by
    simp only [DataW.weights, Tryd.underlying24]
    exact DataW.weights_mem_each (j := 3) (d := y3.1) rfl rfl k hk)
  obtain ⟨A, n, c, l, rfl, hS, hc, hn, hk⟩ := open_steps t3 hw3
  refine ⟨nm, a1, a2, A, n, c, l, rfl, ⟨?_, hS, hc, by omega, hk⟩⟩
  rw [Array.length_toList] at hnm
  show nm.data.size ≤ _
  omega
end
end Go.Proofs.YthmkfbabacehnaaDoor
