/- cmds.Check. -/
import Derived.Test.YtkpfkabdodnooaaGreatDoorEqC
import Derived.Test.YtkpfkabdodnooaaGreatDoorShI
import Derived.Deep.WholeRow
namespace Go.Proofs.YtkpfkabdodnooaaGreatDoor
open Go.RowKit Go.Shelf
set_option linter.unusedSimpArgs false
set_option linter.unusedVariables false
set_option linter.unusedSectionVars false
set_option maxRecDepth 10000
theorem fields_any {k : Int} (h0 : 0 ≤ k) (h4 : k ≤ 4) (w : World) : Calls Tryz.prog 81 #[.int .i64 k] w fun e w' => ∃ s A n c, e = .returned (.tuple #[.string s, .slice A n c, .bool true]) ∧ FdsW w' A n (kindF k) ∧ Below w.heap.size w w' := by
  have : k = 0 ∨ k = 1 ∨ k = 2 ∨ k = 3 ∨ k = 4 := by omega
  rcases this with rfl | rfl | rfl | rfl | rfl
  · exact fields0 w
  · exact fields1 w
  · exact fields2 w
  · exact fields3 w
  · exact fields4 w
theorem cd_store (c : Cd) (W : World) (n : Nat) (hn : n = W.heap.size) : (Instr.storeAt 33 (.pointer (some ⟨n, 0, none⟩)) (.agg (cdV c))).run Tryz.prog (W.alloc (.cells #[.int .i64 0, .int .i64 0, .int .i64 0, .int .i64 0, .int .i64 0, .int .i64 0, .string ⟨#[]⟩, .int .i64 0, .int .i64 0, .string ⟨#[]⟩, .string ⟨#[]⟩, .int .i64 0, .string ⟨#[]⟩, .int .i64 0, .int .i64 0, .slice none 0 0, .int .i64 0, .int .i64 0, .int .i64 0, .int .i64 0, .bool false, .int .i64 0, .int .i64 0, .string ⟨#[]⟩] 33)) = .ok () (W.alloc (.cells (cdV c) 33)) := by
  subst hn
  exact run_storeAt_new W 33 _ _ (by rw [show (cdV c).size = 24 from rfl]; kernel_rfl) rfl (by
    rw [Array.all_eq_true_iff_forall_mem]
    intro v hv
    simp [cdV] at hv
    rcases hv with h | h | h | h | h | h | h | h | h | h | h | h | h | h | h | h | h | h | h | h | h | h | h | h <;> subst h <;> rfl)
theorem storeAt_other (t : TypeId) (p x : Value) (h : (t == 33) = false) : Instr.storeAt t p x = (do storeVar t (← Instr.sureAddr p) x) := rfl
def clrs (fs : List ((Cd → Bool) × (Cd → Cd))) (c : Cd) : Cd := fs.foldl (fun x q => q.2 x) c
def allF (fs : List ((Cd → Bool) × (Cd → Cd))) (c : Cd) : Bool := fs.all fun q => q.1 c
def checkB (c : Cd) : Bool := allF (kindF c.k) c && onlyK (clrs (kindF c.k) c) c.k
attribute [-go_sem] Instr.loadAt Instr.storeAt
attribute [local go_sem] loadAt_other storeAt_other
set_option maxHeartbeats 16000000 in
theorem check_cmd (c : Cd) (h0 : 0 ≤ c.k) (h4 : c.k ≤ 4) (hs : szCd c) (v : World) : Calls Tryz.prog 34 #[.agg (cdV c)] v fun e w' => e = .returned (.int .i64 (if checkB c then 0 else 2)) ∧ Below v.heap.size v w' := by
  obtain ⟨fs, hfs⟩ : ∃ z, z = kindF c.k := ⟨_, rfl⟩
  obtain ⟨ck, hck⟩ : ∃ z, z = checkB c := ⟨_, rfl⟩
  rw [← hck]
  unfold checkB at hck
  rw [← hfs] at hck
  obtain ⟨W1, hW1⟩ : ∃ W1, W1 = v.alloc (.cells (cdV c) 33) := ⟨_, rfl⟩
  have k1 : Below v.heap.size v W1 := by rw [hW1]; exact (Below.refl _ v).alloc (Nat.le_refl _) _
  have b0 : W1.heap[v.heap.size]? = some (.cells (cdV c) 33 (0, 0)) := by rw [hW1]; exact hpNew _ _
  have z0 : W1.cell? ⟨v.heap.size, 0, none⟩ = some (.int .i64 c.k) := blkC b0 0
  rw [hW1] at z0
  have hf := fields_any h0 h4 W1
  rw [← hfs] at hf
  replace hck := Lib.hid hck; replace k1 := Lib.hid k1; replace b0 := Lib.hid b0; replace hfs := Lib.hid hfs
  go_enter Tryz.func34, Tryz.ntmps34
  go_wp2_with (fail)
  rw [← hW1]
  replace hW1 := Lib.hid hW1
  refine hf.mono ?_
  rintro e w2 ⟨s, A, n, cc, rfl, hF, b2⟩
  clear hf z0
  have k2 := Lib.hid (k1.out.trans (b2.mono k1.out.size))
  have c0 := (b2.block _ (blkX b0.out)).trans b0.out
  have hld := cd_load c0
  have hst := cd_store c w2 w2.heap.size rfl
  have hx0 : v.heap.size < w2.heap.size := blkX c0
  obtain ⟨fl, hsl, hlen, hfd⟩ := hF.ex
  have hn := hsl.1
  have hn3 : n ≤ 3 := by rw [← hn, hlen, hfs.out]; unfold kindF; repeat (first | split | (simp <;> done))
  replace hF := Lib.hid hF; replace c0 := Lib.hid c0; replace b2 := Lib.hid b2; replace hsl := Lib.hid hsl; replace hfd := Lib.hid hfd; replace hlen := Lib.hid hlen; replace hn := Lib.hid hn
  go_wp2_with (fail)
  go_loopw [5, 19] (fun o i wr => ∃ j : Nat, j ≤ n ∧ i = .int .i64 j ∧ o = .bool (allF (fs.take j) c) ∧ Below w2.heap.size w2 wr ∧ wr.heap[w2.heap.size]? = some (.cells (cdV (clrs (fs.take j) c)) 33 (0, 0))) (fun _ i _ => n - (intOf i).toNat)
  case atStart => exact ⟨0, by omega, rfl, rfl, (Below.refl _ _).alloc (Nat.le_refl _) _, hpNew _ _⟩
  case round =>
    clear hst hld
    revert wr
    intro W1' hrel
    obtain ⟨j, hj, rfl, rfl, hbw, hr⟩ := hrel
    by_cases hlt : j < n
    · obtain ⟨b, o, fd, rfl, hbl, hx, hc⟩ := SL.at_ hsl.out hlt
      have hjf : j < fs.length := by have := hn.out; have := hlen.out; omega
      obtain ⟨q, hq⟩ : ∃ q, fs[j]? = some q := ⟨_, List.getElem?_eq_getElem hjf⟩
      have hw := (hfd.out j fd q hx hq).below hbw
      have htk : fs.take (j + 1) = fs.take j ++ [q] := by rw [List.take_add_one, hq]; rfl
      have ha1 : allF (fs.take (j + 1)) c = (allF (fs.take j) c && q.1 c) := by unfold allF; rw [htk, List.all_append]; simp
      have hc1 : clrs (fs.take (j + 1)) c = q.2 (clrs (fs.take j) c) := by unfold clrs; rw [htk, List.foldl_append]; rfl
      obtain ⟨ga, la, gb, lb, gc, lc, gd, ld, ge, le⟩ := fd
      have s0 := (hbw.cell (p := ⟨b, _, none⟩) hbl).trans (hc 0 _ rfl)
      have s1 := (hbw.cell (p := ⟨b, _, none⟩) hbl).trans (hc 1 _ rfl)
      have s2 := (hbw.cell (p := ⟨b, _, none⟩) hbl).trans (hc 2 _ rfl)
      have s3 := (hbw.cell (p := ⟨b, _, none⟩) hbl).trans (hc 3 _ rfl)
      have s4 := (hbw.cell (p := ⟨b, _, none⟩) hbl).trans (hc 4 _ rfl)
      rw [Nat.add_zero] at s0
      clear hc
      obtain ⟨X1, hX1⟩ : ∃ Z, Z = W1'.alloc (.cells #[.func (.func ga) #[] la, .func (.func gb) #[] lb, .func (.func gc) #[] lc, .func (.func gd) #[] ld, .func (.func ge) #[] le] 157) := ⟨_, rfl⟩
      have bx : Below W1'.heap.size W1' X1 := by rw [hX1]; exact (Below.refl _ _).alloc (Nat.le_refl _) _
      have hwx := hw.below bx
      have cb : X1.heap[v.heap.size]? = some (.cells (cdV c) 33 (0, 0)) := (bx.block _ (by have := hbw.size; omega)).trans ((hbw.block _ hx0).trans c0.out)
      have cr := (bx.block _ (blkX hr)).trans hr
      have ef : X1.heap[W1'.heap.size]? = some (.cells #[.func (.func ga) #[] la, .func (.func gb) #[] lb, .func (.func gc) #[] lc, .func (.func gd) #[] ld, .func (.func ge) #[] le] 157 (0, 0)) := by rw [hX1]; exact hpNew _ _
      have kx := hbw.trans (bx.mono hbw.size)
      have he1 := hw.e1
      have he5 := hw.e5
      simp only at he1 he5
      have j0 : (0 : Int) ≤ j := by omega
      have j1 : (j : Int) < (n : Int) := by omega
      have ho := hwx.ok X1 (Below.refl _ _) v.heap.size c hs cb
      simp only at ho
      obtain ⟨aj, haj⟩ : ∃ z, z = allF (fs.take j) c := ⟨_, rfl⟩
      obtain ⟨rj, hrj⟩ : ∃ z, z = clrs (fs.take j) c := ⟨_, rfl⟩
      rw [← haj] at ha1 ⊢
      rw [← hrj] at hc1 hr cr
      replace hbw := Lib.hid hbw; replace hr := Lib.hid hr; replace hx := Lib.hid hx; replace hq := Lib.hid hq; replace hw := Lib.hid hw; replace htk := Lib.hid htk; replace ha1 := Lib.hid ha1; replace hc1 := Lib.hid hc1; replace bx := Lib.hid bx; replace cb := Lib.hid cb; replace kx := Lib.hid kx; replace hwx := Lib.hid hwx; replace haj := Lib.hid haj; replace hrj := Lib.hid hrj; replace cr := Lib.hid cr
      have e0 : X1.cell? ⟨W1'.heap.size, 0, none⟩ = some (.func (.func ga) #[] la) := blkC ef 0
      have e4 : X1.cell? ⟨W1'.heap.size, 4, none⟩ = some (.func (.func ge) #[] le) := blkC ef 4
      have e0_ := e0; rw [hX1] at e0_
      have e4_ := e4; rw [hX1] at e4_
      replace ef := Lib.hid ef
      cases aj with
      | true => as_aux_lemma =>
        go_wp2_with (fail)
        rw [← hX1]
        refine ho.mono ?_
        rintro e w4 ⟨rfl, b4⟩
        have k4 := Lib.hid (kx.out.trans (b4.mono kx.out.size))
        have hcl := (hwx.out.below b4).clr w4 (Below.refl _ _) w2.heap.size rj ((b4.block _ (blkX cr.out)).trans cr.out)
        simp only at hcl
        have e4' := (b4.cell (p := ⟨W1'.heap.size, 4, none⟩) (blkX ef.out)).trans e4
        have hxr : w2.heap.size < w4.heap.size := Nat.lt_of_lt_of_le (blkX cr.out) b4.size
        clear b4 ho e0 e4 e0_ e4_ hX1 s0 s1 s2 s3 s4
        go_wp2_with (fail)
        refine hcl.mono ?_
        rintro e w5 ⟨rfl, ht⟩
        have k5 : Below w2.heap.size w2 w5 := Chg.belowAfter k4.out ht.chg k4.out.size (fun q hq' e => by omega)
        have hb5 := ht.blk
        replace ht := Lib.hid ht; replace k5 := Lib.hid k5; replace hb5 := Lib.hid hb5
        clear hcl
        go_wp2_with (fail)
        exact ⟨⟨j + 1, by omega, by go_num, by rw [ha1.out]; simp, k5.out, by rw [hc1.out]; exact hb5.out⟩, by simp [intOf]; omega⟩
      | false => as_aux_lemma =>
        go_wp2_with (fail)
        rw [← hX1]
        have hcl := hwx.out.clr X1 (Below.refl _ _) w2.heap.size rj cr.out
        simp only at hcl
        refine hcl.mono ?_
        rintro e w5 ⟨rfl, ht⟩
        have k5 : Below w2.heap.size w2 w5 := Chg.belowAfter kx.out ht.chg kx.out.size (fun q hq' e => by omega)
        have hb5 := ht.blk
        replace ht := Lib.hid ht; replace k5 := Lib.hid k5; replace hb5 := Lib.hid hb5
        clear hcl
        go_wp2_with (fail)
        exact ⟨⟨j + 1, by omega, by go_num, by rw [ha1.out]; simp, k5.out, by rw [hc1.out]; exact hb5.out⟩, by simp [intOf]; omega⟩
    · obtain rfl : j = n := by omega
      have hfl : fs.take j = fs := List.take_of_length_le (by have := hn.out; have := hlen.out; omega)
      rw [hfl] at hr ⊢
      have j1 : ¬ (j : Int) < (j : Int) := by omega
      have cb := (hbw.block _ hx0).trans c0.out
      have z0 : W1'.cell? ⟨v.heap.size, 0, none⟩ = some (.int .i64 c.k) := blkC cb 0
      have hxb := blkX cb
      have hxr := blkX hr
      have hld := cd_load hr
      have heq := fun W => eqlCmd (clrs fs c) c.k W
      rw [show cdV (zeroCd c.k) = #[.int .i64 c.k, .int .i64 0, .int .i64 0, .int .i64 0, .int .i64 0, .int .i64 0, .string ⟨#[]⟩, .int .i64 0, .int .i64 0, .string ⟨#[]⟩, .string ⟨#[]⟩, .int .i64 0, .string ⟨#[]⟩, .int .i64 0, .int .i64 0, .slice none 0 0, .int .i64 0, .int .i64 0, .int .i64 0, .int .i64 0, .bool false, .int .i64 0, .int .i64 0, .string ⟨#[]⟩] from rfl] at heq
      have k5 := Lib.hid (k2.out.trans (hbw.mono k2.out.size))
      replace hbw := Lib.hid hbw; replace hr := Lib.hid hr; replace cb := Lib.hid cb
      obtain ⟨af, haf⟩ : ∃ z, z = allF fs c := ⟨_, rfl⟩
      rw [← haf] at hck ⊢
      replace haf := Lib.hid haf
      generalize clrs fs c = rf at *
      cases af with
      | false =>
        have hno : ck = false := hck.out
        subst hno
        go_wp2_with (fail)
        go_ret
        exact ⟨by simp, k5.out⟩
      | true =>
        have hye : ck = onlyK rf c.k := by rw [hck.out]; simp
        cases hok : onlyK rf c.k with
        | true => as_aux_lemma =>
          rw [hok] at hye heq
          subst hye
          replace hok := Lib.hid hok
          go_wp2_with (fail)
          refine (heq _).mono ?_
          rintro e w6 ⟨rfl, b6⟩
          have k6 := Lib.hid (k5.out.trans (b6.mono k5.out.size))
          clear heq b6
          go_wp2_with (fail)
          go_ret
          exact ⟨by simp, k6.out⟩
        | false => as_aux_lemma =>
          rw [hok] at hye heq
          subst hye
          replace hok := Lib.hid hok
          go_wp2_with (fail)
          refine (heq _).mono ?_
          rintro e w6 ⟨rfl, b6⟩
          have k6 := Lib.hid (k5.out.trans (b6.mono k5.out.size))
          clear heq b6
          go_wp2_with (fail)
          go_ret
          exact ⟨by simp, k6.out⟩
end Go.Proofs.YtkpfkabdodnooaaGreatDoor
