/- The walk of ShardNil. -/
import Derived.Test.YtkpfkabdodnooaaGreatDoorClG
import Derived.Test.YtkpfkabdodnooaaGreatDoorWkW
import Derived.Test.YtkpfkabdodnooaaGreatDoorShI
namespace Go.Proofs.YtkpfkabdodnooaaGreatDoor
open Go.RowKit Go.Shelf
set_option linter.unusedSimpArgs false
set_option linter.unusedVariables false
set_option linter.unusedSectionVars false
set_option maxRecDepth 10000
attribute [-go_sem] Instr.loadAt
attribute [local go_sem] loadAt_other
set_option maxHeartbeats 16000000 in
theorem nil_walk (c : Cd) (l : List (ByteArray × Int)) (v : World) (hs : SS2 v c.dA c.dl' l) : Calls Tryz.prog 3 #[.agg (cdV c)] v fun e w' => e = .returned (.bool true) ∧ Below v.heap.size v w' := by
  obtain ⟨W1, hW1⟩ : ∃ W, W = v.alloc (.cells (cdV c) 33) := ⟨_, rfl⟩
  have k1 : Below v.heap.size v W1 := by rw [hW1]; exact (Below.refl _ v).alloc (Nat.le_refl _) _
  have b1 : W1.heap[v.heap.size]? = some (.cells (cdV c) 33 (0, 0)) := by rw [hW1]; exact hpNew _ _
  have hsm := small_any c l W1 (SL.keep hs k1)
  have hld := cd_load b1
  rw [hW1] at hld
  replace k1 := Lib.hid k1; replace b1 := Lib.hid b1
  clear hs
  go_enter Tryz.func3, Tryz.ntmps3
  go_wp2_with (fail)
  rw [← hW1] at hld ⊢
  replace hW1 := Lib.hid hW1
  clear hld
  refine hsm.mono ?_
  rintro e W2 ⟨⟨b, rfl⟩, b2⟩
  have k2 := Lib.hid (k1.out.trans (b2.mono k1.out.size))
  have c2 := Lib.hid ((b2.block _ (blkX b1.out)).trans b1.out)
  clear b2 hsm
  cases b with
  | false =>
    go_wp2_with (fail)
    refine (works_any _).mono ?_
    rintro e W3 ⟨rfl, b3⟩
    have k3 := Lib.hid (k2.out.trans (b3.mono k2.out.size))
    clear b3
    go_wp2_with (fail)
    go_ret
    exact ⟨rfl, k3.out⟩
  | true =>
    obtain ⟨W3, hW3⟩ : ∃ W, W = W2.alloc (.cells #[.int .i64 0, .int .i64 0, .slice none 0 0, .pointer none, .pointer none, .map none, .map none] 43) := ⟨_, rfl⟩
    have b3 : Below W2.heap.size W2 W3 := by rw [hW3]; exact (Below.refl _ _).alloc (Nat.le_refl _) _
    have z3 : W3.heap[W2.heap.size]? = some (.cells #[.int .i64 0, .int .i64 0, .slice none 0 0, .pointer none, .pointer none, .map none, .map none] 43 (0, 0)) := by rw [hW3]; exact hpNew _ _
    have n3 : W3.heap.size = W2.heap.size + 1 := by rw [hW3]; simp
    obtain ⟨W4, hW4⟩ : ∃ W, W = W3.alloc (.cells #[.pointer none, .pointer (some ⟨W2.heap.size, 0, none⟩)] 36) := ⟨_, rfl⟩
    have b4 : Below W3.heap.size W3 W4 := by rw [hW4]; exact (Below.refl _ _).alloc (Nat.le_refl _) _
    have r4 : W4.heap[W2.heap.size + 1]? = some (.cells #[.pointer none, .pointer (some ⟨W2.heap.size, 0, none⟩)] 36 (0, 0)) := by rw [hW4, ← n3]; exact hpNew _ _
    have z4 := (b4.block _ (blkX z3)).trans z3
    have k4 := (k2.out.trans (b3.mono k2.out.size)).trans (b4.mono (Nat.le_trans k2.out.size b3.size))
    have c4 := (b4.block _ (blkX ((b3.block _ (blkX c2.out)).trans c2.out))).trans ((b3.block _ (blkX c2.out)).trans c2.out)
    have b24 := b3.trans (b4.mono b3.size)
    replace k4 := Lib.hid k4; replace c4 := Lib.hid c4; replace r4 := Lib.hid r4; replace z4 := Lib.hid z4; replace b24 := Lib.hid b24
    clear z3 n3 b3 b4
    replace hW3 := Lib.hid hW3; replace hW4 := Lib.hid hW4
    go_wp2_with (fail)
    rw [← hW3.out, ← hW4.out]
    go_loopw [19] (fun i wr => ∃ j : Nat, j ≤ 2 ∧ i = .int .i64 j ∧ Below W4.heap.size W4 wr) (fun i _ => 2 - (intOf i).toNat)
    case atStart => exact ⟨0, by omega, rfl, Below.refl _ _⟩
    case round =>
      revert wr
      intro X hrel
      obtain ⟨j, hj, rfl, hb⟩ := hrel
      have k5 := Lib.hid (k4.out.trans (hb.mono k4.out.size))
      have c5 := Lib.hid ((hb.block _ (blkX c4.out)).trans c4.out)
      have r5 := (hb.block _ (blkX r4.out)).trans r4.out
      have z5 := (hb.block _ (blkX z4.out)).trans z4.out
      by_cases hlt : j < 2
      · obtain ⟨s, hcell, hno⟩ : ∃ s, X.cell? ⟨W2.heap.size + 1, j, none⟩ = some s ∧ NoSh s X := by
          have hj2 : j = 0 ∨ j = 1 := by omega
          rcases hj2 with rfl | rfl
          · exact ⟨_, blkC r5 0, noSh_nil X⟩
          · exact ⟨_, blkC r5 1, noSh_zero z5⟩
        have rx := blkX r5
        have j0 : (0 : Int) ≤ j := by omega
        have j1 : (j : Int) < 2 := by omega
        replace hb := Lib.hid hb; replace hno := Lib.hid hno
        clear r5 z5
        have t6 : X.cell? ⟨v.heap.size, 6, none⟩ = some (.string c.key) := blkC c5.out 6
        have tx := blkX c5.out
        go_wp2_with (fail)
        clear t6 tx hcell rx
        refine (noGet_any hno.out c.key).mono ?_
        rintro e Va ⟨rfl, bb⟩
        have ka := Lib.hid (hb.out.trans (bb.mono hb.out.size))
        have ca := Lib.hid ((bb.block _ (blkX c5.out)).trans c5.out)
        have noa := Lib.hid (hno.out.below bb)
        clear bb
        obtain ⟨Vb, hVb⟩ : ∃ W, W = Va.alloc (.cells #[.int .i64 0, .int .i64 0, .int .i64 0, .int .i64 0, .int .i64 0] 46) := ⟨_, rfl⟩
        have bb : Below Va.heap.size Va Vb := by rw [hVb]; exact (Below.refl _ _).alloc (Nat.le_refl _) _
        obtain ⟨gb, hgb⟩ : ∃ n, n = Va.heap.size := ⟨_, rfl⟩
        have qgb := Lib.hid (show Vb.heap[gb]? = some (.cells #[.int .i64 0, .int .i64 0, .int .i64 0, .int .i64 0, .int .i64 0] 46 (0, 0)) by rw [hVb, hgb]; exact hpNew _ _)
        have kb := Lib.hid (ka.out.trans (bb.mono ka.out.size))
        have cb := Lib.hid ((bb.block _ (blkX ca.out)).trans ca.out)
        have nob := Lib.hid (noa.out.below bb)
        clear bb
        replace hVb := Lib.hid hVb; replace hgb := Lib.hid hgb
        have t3 : Vb.cell? ⟨v.heap.size, 3, none⟩ = some (.int .i64 c.e.1) := blkC cb.out 3
        have t4 : Vb.cell? ⟨v.heap.size, 4, none⟩ = some (.int .i64 c.e.2.1) := blkC cb.out 4
        have t5 : Vb.cell? ⟨v.heap.size, 5, none⟩ = some (.int .i64 c.e.2.2) := blkC cb.out 5
        have tx := blkX cb.out
        rw [hVb.out] at t3 t4 t5 tx
        go_wp2_with (fail)
        rw [← hVb.out, ← hgb.out]
        clear t3 t4 t5 tx
        refine (noDone_any nob.out c.e.1 c.e.2.1 c.e.2.2).mono ?_
        rintro e Vc ⟨rfl, bb⟩
        have kc := Lib.hid (kb.out.trans (bb.mono kb.out.size))
        have cc := Lib.hid ((bb.block _ (blkX cb.out)).trans cb.out)
        have noc := Lib.hid (nob.out.below bb)
        have qgb_c := Lib.hid ((bb.block _ (blkX qgb.out)).trans qgb.out)
        clear bb
        obtain ⟨Vd, hVd⟩ : ∃ W, W = Vc.alloc (.cells #[.int .i64 0, .int .i64 0, .string ⟨#[]⟩] 50) := ⟨_, rfl⟩
        have bb : Below Vc.heap.size Vc Vd := by rw [hVd]; exact (Below.refl _ _).alloc (Nat.le_refl _) _
        obtain ⟨db, hdb⟩ : ∃ n, n = Vc.heap.size := ⟨_, rfl⟩
        have qdb := Lib.hid (show Vd.heap[db]? = some (.cells #[.int .i64 0, .int .i64 0, .string ⟨#[]⟩] 50 (0, 0)) by rw [hVd, hdb]; exact hpNew _ _)
        have kd := Lib.hid (kc.out.trans (bb.mono kc.out.size))
        have cd := Lib.hid ((bb.block _ (blkX cc.out)).trans cc.out)
        have nod := Lib.hid (noc.out.below bb)
        have qgb_d := Lib.hid ((bb.block _ (blkX qgb_c.out)).trans qgb_c.out)
        clear bb
        replace hVd := Lib.hid hVd; replace hdb := Lib.hid hdb
        have t9 : Vd.cell? ⟨v.heap.size, 9, none⟩ = some (.string c.r.1) := blkC cd.out 9
        have t10 : Vd.cell? ⟨v.heap.size, 10, none⟩ = some (.string c.r.2) := blkC cd.out 10
        have tx := blkX cd.out
        rw [hVd.out] at t9 t10 tx
        go_wp2_with (fail)
        rw [← hVd.out, ← hdb.out]
        clear t9 t10 tx
        refine (noOwn_any nod.out c.r.1 c.r.2).mono ?_
        rintro e Ve ⟨rfl, bb⟩
        have ke := Lib.hid (kd.out.trans (bb.mono kd.out.size))
        have ce := Lib.hid ((bb.block _ (blkX cd.out)).trans cd.out)
        have noe := Lib.hid (nod.out.below bb)
        have qgb_e := Lib.hid ((bb.block _ (blkX qgb_d.out)).trans qgb_d.out)
        have qdb_e := Lib.hid ((bb.block _ (blkX qdb.out)).trans qdb.out)
        clear bb
        have hld := cd_load ce.out
        go_wp2_with (fail)
        clear hld
        refine (noApply_any noe.out c).mono ?_
        rintro e Vf ⟨rfl, bb⟩
        have kf := Lib.hid (ke.out.trans (bb.mono ke.out.size))
        have cf := Lib.hid ((bb.block _ (blkX ce.out)).trans ce.out)
        have nof := Lib.hid (noe.out.below bb)
        have qgb_f := Lib.hid ((bb.block _ (blkX qgb_e.out)).trans qgb_e.out)
        have qdb_f := Lib.hid ((bb.block _ (blkX qdb_e.out)).trans qdb_e.out)
        clear bb
        have g0 := blkC qgb_f.out 0
        have g1 := blkC qgb_f.out 1
        have g2 := blkC qgb_f.out 2
        have g3 := blkC qgb_f.out 3
        have g4 := blkC qgb_f.out 4
        have gx := blkX qgb_f.out
        simp only [List.getElem?_toArray, List.getElem?_cons_zero, List.getElem?_cons_succ] at g0 g1 g2 g3 g4
        have t6 : Vf.cell? ⟨v.heap.size, 6, none⟩ = some (.string c.key) := blkC cf.out 6
        have tx := blkX cf.out
        go_wp2_with (fail)
        clear t6 tx g0 g1 g2 g3 g4 gx
        refine (noOwns_any nof.out c.key).mono ?_
        rintro e Vg ⟨rfl, bb⟩
        have kg := Lib.hid (kf.out.trans (bb.mono kf.out.size))
        have cg := Lib.hid ((bb.block _ (blkX cf.out)).trans cf.out)
        have nog := Lib.hid (nof.out.below bb)
        have qgb_g := Lib.hid ((bb.block _ (blkX qgb_f.out)).trans qgb_f.out)
        have qdb_g := Lib.hid ((bb.block _ (blkX qdb_f.out)).trans qdb_f.out)
        clear bb
        have d0 := blkC qdb_g.out 0
        have d1 := blkC qdb_g.out 1
        have d2 := blkC qdb_g.out 2
        have dx := blkX qdb_g.out
        simp only [List.getElem?_toArray, List.getElem?_cons_zero, List.getElem?_cons_succ] at d0 d1 d2
        go_wp2_with (fail)
        clear d0 d1 d2 dx
        refine (noRanges_any nog.out).mono ?_
        rintro e Vh ⟨rfl, bb⟩
        have kh := Lib.hid (kg.out.trans (bb.mono kg.out.size))
        have ch := Lib.hid ((bb.block _ (blkX cg.out)).trans cg.out)
        have noh := Lib.hid (nog.out.below bb)
        have qgb_h := Lib.hid ((bb.block _ (blkX qgb_g.out)).trans qgb_g.out)
        have qdb_h := Lib.hid ((bb.block _ (blkX qdb_g.out)).trans qdb_g.out)
        clear bb
        go_wp2_with (fail)
        refine (noQuiet_any noh.out).mono ?_
        rintro e Vi ⟨rfl, bb⟩
        have ki := Lib.hid (kh.out.trans (bb.mono kh.out.size))
        have ci := Lib.hid ((bb.block _ (blkX ch.out)).trans ch.out)
        have noi := Lib.hid (noh.out.below bb)
        have qgb_i := Lib.hid ((bb.block _ (blkX qgb_h.out)).trans qgb_h.out)
        have qdb_i := Lib.hid ((bb.block _ (blkX qdb_h.out)).trans qdb_h.out)
        clear bb
        go_wp2_with (fail)
        refine (noApplied_any noi.out).mono ?_
        rintro e Vj ⟨rfl, bb⟩
        have kj := Lib.hid (ki.out.trans (bb.mono ki.out.size))
        have cj := Lib.hid ((bb.block _ (blkX ci.out)).trans ci.out)
        have noj := Lib.hid (noi.out.below bb)
        have qgb_j := Lib.hid ((bb.block _ (blkX qgb_i.out)).trans qgb_i.out)
        have qdb_j := Lib.hid ((bb.block _ (blkX qdb_i.out)).trans qdb_i.out)
        clear bb
        go_wp2_with (fail)
        refine (noState_any noj.out).mono ?_
        rintro e Vk ⟨rfl, bb⟩
        have kk := Lib.hid (kj.out.trans (bb.mono kj.out.size))
        have ck := Lib.hid ((bb.block _ (blkX cj.out)).trans cj.out)
        have nok := Lib.hid (noj.out.below bb)
        have qgb_k := Lib.hid ((bb.block _ (blkX qgb_j.out)).trans qgb_j.out)
        have qdb_k := Lib.hid ((bb.block _ (blkX qdb_j.out)).trans qdb_j.out)
        clear bb
        go_wp2_with (fail)
        refine (same_zero _).mono ?_
        rintro e Vl ⟨rfl, bb⟩
        have kl := Lib.hid (kk.out.trans (bb.mono kk.out.size))
        have cl := Lib.hid ((bb.block _ (blkX ck.out)).trans ck.out)
        have nol := Lib.hid (nok.out.below bb)
        have qgb_l := Lib.hid ((bb.block _ (blkX qgb_k.out)).trans qgb_k.out)
        have qdb_l := Lib.hid ((bb.block _ (blkX qdb_k.out)).trans qdb_k.out)
        clear bb
        go_wp2_with (fail)
        refine (noCopy_any nol.out).mono ?_
        rintro e Vn ⟨rfl, bb⟩
        have kn := Lib.hid (kl.out.trans (bb.mono kl.out.size))
        have cn := Lib.hid ((bb.block _ (blkX cl.out)).trans cl.out)
        have non := Lib.hid (nol.out.below bb)
        have qgb_n := Lib.hid ((bb.block _ (blkX qgb_l.out)).trans qgb_l.out)
        have qdb_n := Lib.hid ((bb.block _ (blkX qdb_l.out)).trans qdb_l.out)
        clear bb
        go_wp2_with (fail)
        exact ⟨⟨j + 1, by omega, by go_num, kn.out⟩, by simp [intOf]; omega⟩
      · obtain rfl : j = 2 := by omega
        clear r5 z5
        replace hb := Lib.hid hb
        go_wp2_with (fail)
        refine (works_any _).mono ?_
        rintro e W8 ⟨rfl, b8⟩
        have k8 := Lib.hid (k5.out.trans (b8.mono k5.out.size))
        clear b8
        go_wp2_with (fail)
        go_ret
        exact ⟨rfl, k8.out⟩
end Go.Proofs.YtkpfkabdodnooaaGreatDoor
