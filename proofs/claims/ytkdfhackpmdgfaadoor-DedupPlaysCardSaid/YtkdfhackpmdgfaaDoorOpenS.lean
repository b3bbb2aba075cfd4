/- A list of steps, as an argument. -/
import Derived.Test.YtkdfhackpmdgfaaDoorOpens
import Derived.Test.YtkdfhackpmdgfaaDoorOpenR
import Derived.Test.YtkdfhackpmdgfaaDoorFew
import Derived.ChangeSame
import Derived.Deep.Strs
namespace Go.Proofs.YtkdfhackpmdgfaaDoor
open Go.RowKit Go.Shelf
set_option linter.unusedSimpArgs false
set_option linter.unusedVariables false
set_option linter.unusedSectionVars false
set_option maxRecDepth 10000
open Go.ChangeShapes Go.WideShapes Go.Deep
theorem blk_addS (a : Addr) (n : Nat) : (a.add n).block = a.block := by
  unfold Addr.add; split <;> rfl
section
variable {H : Type} {enc : TypeId × Value → H} {w : World} {r : Reach} {b0 : Nat}
/-- One step, read. -/
theorem open_step {cs : List Value} {x : DataW H × List MemPlace} {fuel : Nat} (h : DataW.trod enc Tryd.prog w 0 (fun _ => true) true fuel 45 cs = some x) (hw : Weighs Tryd.prog 45 x.1) :
    ∃ s : St, cs = encS s ∧ okSt s := by
  obtain ⟨xs, n, rfl, rfl, hl, hlen, hf⟩ := DataW.trod_struct Tryd.underlying45 h
  rw [show Tryd.prog.cellsOf 45 = 10 from by kernel_rfl] at hl
  match cs, hl with
  | [v0, v1, v2, v3, v4, v5, v6, v7, v8, v9], _ =>
    have h0 := hf 0 _ rfl; have h1 := hf 1 _ rfl; have h2 := hf 2 _ rfl; have h3 := hf 3 _ rfl; have h4 := hf 4 _ rfl
    match xs, hlen with
    | [x0, x1, x2, x3, x4], _ =>
      simp only [List.getElem?_cons_zero, List.getElem?_cons_succ, List.getElem_toArray, List.getElem_cons_zero, List.getElem_cons_succ] at h0 h1 h2 h3 h4
      rw [show Tryd.prog.cellsOf 3 = 1 from by kernel_rfl] at h0
      rw [show Tryd.prog.cellsOf 23 = 3 from by kernel_rfl] at h1
      rw [show Tryd.prog.cellsOf 9 = 1 from by kernel_rfl] at h2
      rw [show Tryd.prog.cellsOf 43 = 3 from by kernel_rfl] at h3
      rw [show Tryd.prog.cellsOf 25 = 2 from by kernel_rfl] at h4
      simp only [List.drop_zero, List.drop_succ_cons, List.take_succ_cons, List.take_zero] at h0 h1 h2 h3 h4
      obtain ⟨a0, q0, p0, -⟩ := DataW.trod_int Tryd.underlying3 h0
      obtain ⟨a4, q4, p4, -⟩ := DataW.trod_string Tryd.underlying9 h2
      obtain ⟨y0, y1, y2, n1, hy, -, t0, t1, t2⟩ := trod_struct3 Tryd.underlying23 h1
      obtain ⟨z0, z1, z2, n3, hz, -, u0, u1, u2⟩ := trod_struct3 Tryd.underlying43 h3
      obtain ⟨g0, g1, n4, hg, -, k0, k1⟩ := trod_struct2 Tryd.underlying25 h4
      rw [show Tryd.prog.cellsOf 3 = 1 from by kernel_rfl] at t0 t1 t2
      rw [show Tryd.prog.cellsOf 28 = 1 from by kernel_rfl] at u0
      rw [show Tryd.prog.cellsOf 2 = 1 from by kernel_rfl] at u1
      rw [show Tryd.prog.cellsOf 9 = 1 from by kernel_rfl] at u2 k0 k1
      simp only [List.drop_zero, List.drop_succ_cons, List.take_succ_cons, List.take_zero] at t0 t1 t2 u0 u1 u2 k0 k1
      obtain ⟨a1, q1, p1, -⟩ := DataW.trod_int Tryd.underlying3 t0
      obtain ⟨a2, q2, p2, -⟩ := DataW.trod_int Tryd.underlying3 t1
      obtain ⟨a3, q3, p3, -⟩ := DataW.trod_int Tryd.underlying3 t2
      obtain ⟨a5, q5, p5, -⟩ := DataW.trod_int Tryd.underlying28 u0
      obtain ⟨a6, q6, p6, -⟩ := DataW.trod_int Tryd.underlying2 u1
      obtain ⟨a7, q7, p7, -⟩ := DataW.trod_string Tryd.underlying9 u2
      obtain ⟨a8, q8, p8, -⟩ := DataW.trod_string Tryd.underlying9 k0
      obtain ⟨a9, q9, p9, -⟩ := DataW.trod_string Tryd.underlying9 k1
      simp only [List.cons.injEq, and_true] at q0 q1 q2 q3 q4 q5 q6 q7 q8 q9
      subst q0 q1 q2 q3 q4 q5 q6 q7 q8 q9
      have hr := reachBytes_lt
      refine ⟨(a0, (a1, a2, a3), a4, (a5, a6, a7), (a8, a9)), rfl, ?_, ?_, ?_⟩
      · have : a4.data.toList.length ≤ reachBytes := hw _ (by
          simp only [DataW.weights, Tryd.underlying45]
          refine DataW.weights_mem_each (j := 2) (d := .lit (.string a4.data.toList)) rfl ?_ _ (by simp [DataW.weights])
          rw [p4]; rfl)
        rw [Array.length_toList] at this
        show a4.data.size ≤ _
        omega
      · have : a8.data.toList.length ≤ reachBytes := hw _ (by
          simp only [DataW.weights, Tryd.underlying45]
          refine DataW.weights_mem_each (j := 4) (d := x4.1) rfl rfl _ ?_
          rw [hg]
          simp only [DataW.weights, Tryd.underlying25]
          refine DataW.weights_mem_each (j := 0) (d := .lit (.string a8.data.toList)) rfl ?_ _ (by simp [DataW.weights])
          rw [p8]; rfl)
        rw [Array.length_toList] at this
        show a8.data.size ≤ _
        omega
      · have : a9.data.toList.length ≤ reachBytes := hw _ (by
          simp only [DataW.weights, Tryd.underlying45]
          refine DataW.weights_mem_each (j := 4) (d := x4.1) rfl rfl _ ?_
          rw [hg]
          simp only [DataW.weights, Tryd.underlying25]
          refine DataW.weights_mem_each (j := 1) (d := .lit (.string a9.data.toList)) rfl ?_ _ (by simp [DataW.weights])
          rw [p9]; rfl)
        rw [Array.length_toList] at this
        show a9.data.size ≤ _
        omega
theorem open_plays {v : Value} {d : DataW H} {p : List MemPlace} (hval : Value.okWide Tryd.prog w r b0 40 v) (h : DataW.Trod enc Tryd.prog w 0 (fun _ => true) true 40 v d p) (hw : Weighs Tryd.prog 40 d) :
    ∃ A n c l, v = .slice A n c ∧ SSt w A n l ∧ n ≤ 140737488355328 ∧ ∀ s ∈ l, okSt s := by
  obtain ⟨A, n, c, rfl⟩ := okWide_slice Tryd.underlying40 hval
  obtain ⟨fuel, hf⟩ := h
  rcases open_slice Tryd.underlying40 hf with ⟨hcs, hx⟩ | ⟨a, len, cap, m, q, D, Pl, hcs, _, hl, hm, hmm, hx, hi⟩
  · simp [Value.cells] at hcs
    obtain ⟨rfl, rfl, rfl⟩ := hcs
    exact ⟨none, 0, 0, [], rfl, SL.nil _ _, by omega, by simp⟩
  · simp [Value.cells] at hcs
    obtain ⟨rfl, rfl, rfl⟩ := hcs
    simp only [Prod.mk.injEq] at hx
    obtain ⟨rfl, rfl⟩ := hx
    simp only [if_true] at hmm
    subst hmm
    have hr := reachBytes_lt
    have hC : Tryd.prog.cellsOf 45 = 10 := by kernel_rfl
    rw [hC] at hi
    have hsz : n ≤ 140737488355328 := by
      have hwn := hw ((((List.range n).map D).length + ((List.range (m - n)).map fun j => D (n + j)).length) * Tryd.prog.bytesOf 45) (by
        simp only [DataW.weights, Tryd.underlying40]
        exact List.mem_cons_self ..)
      rw [show Tryd.prog.bytesOf 45 = 112 from by kernel_rfl] at hwn
      simp only [List.length_map, List.length_range] at hwn
      omega
    have hel : ∀ i, i < n → ∃ s : St, okSt s ∧ ∀ (j : Nat) (u : Value), (encS s)[j]? = some u → w.cell? (a.add (i * 10 + j)) = some u := by
      intro i hin
      obtain ⟨cs', hc, ht⟩ := hi i (by omega)
      obtain ⟨_, hcl, hat⟩ := World.cells?_some hc
      obtain ⟨s, rfl, hok⟩ := open_step ht (fun k hk => hw k (by
        simp only [DataW.weights, Tryd.underlying40]
        exact List.mem_cons_of_mem _ (List.mem_append.2 (.inl (weights_all_mem (d := D i) (List.mem_map.2 ⟨i, List.mem_range.2 hin, rfl⟩) hk)))))
      refine ⟨s, hok, fun j u hu => ?_⟩
      have hj : j < 10 := by have := (List.getElem?_eq_some_iff.1 hu).1; rwa [encS_len] at this
      rw [← Go.Deep.add_add, hat j hj, hu]
    let F : Nat → St := fun i => if hin : i < n then (hel i hin).choose else (0, (0, 0, 0), noText, (0, 0, noText), (noText, noText))
    have hF : ∀ i (hin : i < n), okSt (F i) ∧ ∀ (j : Nat) (u : Value), (encS (F i))[j]? = some u → w.cell? (a.add (i * 10 + j)) = some u := by
      intro i hin
      have := (hel i hin).choose_spec
      simp only [F, dif_pos hin]
      exact this
    refine ⟨some a, n, m, (List.range n).map F, rfl, ⟨by simp, fun hn => ?_⟩, hsz, fun x hx => ?_⟩
    · have h0 := (hF 0 hn).2 0 _ rfl
      have hb := World.block_lt_of_cell? w (a.add (0 * 10 + 0)) h0
      have hs := World.cell?_spot h0
      rw [blk_addS] at hb
      have hsp : a.spot = none := by simpa [Addr.add] using hs
      obtain ⟨ab, ao, asp⟩ := a
      simp only at hsp
      subst hsp
      refine ⟨ab, ao, rfl, hb, fun i u hu j x hx => ?_⟩
      have hil := (List.getElem?_eq_some_iff.1 hu).1
      simp only [List.length_map, List.length_range] at hil
      rw [List.getElem?_map, List.getElem?_range hil] at hu
      simp only [Option.map_some, Option.some.injEq] at hu
      subst hu
      have := (hF i hil).2 j x hx
      rw [Addr.add_lit, ← Nat.add_assoc] at this
      exact this
    · obtain ⟨i, hi2, rfl⟩ := List.mem_map.1 hx
      exact (hF i (List.mem_range.1 hi2)).1
end
end Go.Proofs.YtkdfhackpmdgfaaDoor
