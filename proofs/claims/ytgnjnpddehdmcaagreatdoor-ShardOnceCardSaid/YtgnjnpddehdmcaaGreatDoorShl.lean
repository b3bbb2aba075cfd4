/- short. -/
import Derived.Test.YtgnjnpddehdmcaaGreatDoorShort
import Derived.Test.YtgnjnpddehdmcaaGreatDoorWkP
import Derived.Test.YtgnjnpddehdmcaaGreatDoorOpenL
import Derived.Test.YtgnjnpddehdmcaaGreatDoorRowK
namespace Go.Proofs.YtgnjnpddehdmcaaGreatDoor
open Go.RowKit Go.Shelf
set_option linter.unusedSimpArgs false
set_option linter.unusedVariables false
set_option linter.unusedSectionVars false
set_option maxRecDepth 10000
def SaysB (p : Prop) (e : Ending) : Prop := ∃ b, e = .returned (.bool b) ∧ (b = true → p)
theorem SaysB.no {p : Prop} : SaysB p (.returned (.bool false)) := ⟨false, rfl, fun q => Bool.noConfusion q⟩
set_option maxHeartbeats 16000000 in
theorem small2_any (c : Cd) (l : List (ByteArray × Int)) (w : World) (hs : SS2 w c.dA c.dl' l) : Calls Tryz.prog 13 #[.agg (cdV c)] w fun e w' => SaysB (szCd c) e ∧ Below w.heap.size w w' := by
 obtain ⟨W1, hW1⟩ : ∃ W, W = w.alloc (.cells (cdV c) 40) := ⟨_, rfl⟩
 have k1 : Below w.heap.size w W1 := by rw [hW1]; exact (Below.refl _ w).alloc (Nat.le_refl _) _
 have b1 : W1.heap[w.heap.size]? = some (.cells (cdV c) 40 (0, 0)) := by rw [hW1]; exact hpNew _ _
 have hsh := short_any c.dn c.dr c.dd c.dA c.dl' c.dc l W1 (SL.keep hs k1)
 have t6 : W1.cell? ⟨w.heap.size, 6, none⟩ = some (.string c.key) := blkC b1 6
 have t9 : W1.cell? ⟨w.heap.size, 9, none⟩ = some (.string c.r.1) := blkC b1 9
 have t10 : W1.cell? ⟨w.heap.size, 10, none⟩ = some (.string c.r.2) := blkC b1 10
 have t12 : W1.cell? ⟨w.heap.size, 12, none⟩ = some (.string c.dn) := blkC b1 12
 have t13 : W1.cell? ⟨w.heap.size, 13, none⟩ = some (.int .i64 c.dr) := blkC b1 13
 have t14 : W1.cell? ⟨w.heap.size, 14, none⟩ = some (.int .i64 c.dd) := blkC b1 14
 have t15 : W1.cell? ⟨w.heap.size, 15, none⟩ = some (.slice c.dA c.dl' c.dc) := blkC b1 15
 have t23 : W1.cell? ⟨w.heap.size, 23, none⟩ = some (.string c.dat) := blkC b1 23
 have tx := blkX b1
 rw [hW1] at t6 t9 t10 t12 t13 t14 t15 t23 tx
 replace hW1 := Lh hW1; replace k1 := Lh k1
 clear hs b1
 go_enter Tryz.func13, Tryz.ntmps13
 go_wp2_with (fail)
 all_goals first | (go_ret; exact ⟨SaysB.no, by have q := k1.out; rw [hW1.out] at q; exact q⟩) | (rw [← hW1.out]; have hz : szCd c := ⟨⟨by omega, by omega⟩, by omega⟩; refine hsh.mono ?_; rintro e W2 ⟨⟨b, rfl⟩, b2⟩; have k2 := Lh (k1.out.trans (b2.mono k1.out.size)); clear b2; go_wp2_with (fail); go_ret; exact ⟨⟨_, rfl, fun _ => hz⟩, k2.out⟩)
def okO (o : OwS) : Prop := szG o.y.r ∧ o.n1 ≤ 80 ∧ o.n2 ≤ 80 ∧ ∀ k ∈ o.y.ks, k.size ≤ 100
def ShP (n m : Nat) (ol : List OwS) (cl : List CdS) : Prop := n ≤ 8 ∧ m ≤ 60 ∧ (∀ o ∈ ol, okO o) ∧ ∀ y ∈ cl, szCd y.1
theorem takeAllP {α : Type} {q : α → Prop} {l : List α} {j : Nat} {x : α} (h : ∀ a ∈ l.take j, q a) (hx : l[j]? = some x) (hq : q x) : ∀ a ∈ l.take (j + 1), q a := by
 rw [List.take_add_one, hx]
 intro a ha
 rcases List.mem_append.1 ha with ha | ha
 ·
  exact h a ha
 ·
  simp at ha; subst ha; exact hq
theorem takeLenP {α : Type} {q : α → Prop} {l : List α} {j : Nat} (h : ∀ a ∈ l.take j, q a) (hl : l.length ≤ j) : ∀ a ∈ l, q a := by
 rw [List.take_of_length_le hl] at h; exact h
theorem cd_load_at {W : World} {b o : Nat} {c : CdS} (h : ∀ (j : Nat) (u : Value), (encCd c)[j]? = some u → W.cell? ⟨b, o + j, none⟩ = some u) : (Instr.loadAt 40 (.pointer (some ⟨b, o, none⟩))).run Tryz.prog W = .ok (.agg (cdV c.1)) W := by
 have := run_loadAt_mid (P := Tryz.prog) W b o 40 (cdV c.1).toList _ (fun j v hv => h j v hv) Tryz.underlying40 rfl (by
   rw [show (cdV c.1).toList.length = 24 from rfl]
   kernel_rfl)
 simpa using this
attribute [-go_sem] Instr.loadAt
attribute [local go_sem] loadAt_other
set_option maxHeartbeats 16000000 in
theorem short34_any (A : Option Addr) (n c : Nat) (ol : List OwS) (B : Option Addr) (m d : Nat) (cl : List CdS) (v : World) (ho : OL v A n ol) (hc : CL v B m cl) : Calls Tryz.prog 4 #[.slice A n c, .slice B m d] v fun e w' => SaysB (ShP n m ol cl) e ∧ Below v.heap.size v w' := by
 replace ho := Lh ho; replace hc := Lh hc
 go_enter Tryz.func4, Tryz.ntmps4
 go_wp2_with (fail)
 all_goals first | (go_ret; exact ⟨SaysB.no, Below.refl _ _⟩) | skip
 have h8 := Lh (show n ≤ 8 ∧ m ≤ 60 from ⟨by omega, by omega⟩)
 go_loopw [5] (fun i wr => wr = v ∧ ∃ j : Nat, j ≤ n ∧ i = .int .i64 j ∧ ∀ o ∈ ol.take j, okO o) (fun i _ => n - (intOf i).toNat)
 case atStart => exact ⟨by first | rfl | trivial, 0, by omega, rfl, by simp⟩
 case round =>
  revert wr
  intro X hrel
  obtain ⟨hX, j, hj, rfl, hok⟩ := hrel
  obtain rfl : X = v := hX
  replace hok := Lh hok
  by_cases hlt : j < n
  ·
   obtain ⟨b, o, y, rfl, hbl, hx, hcl⟩ := SL.at_ ho.out.sl hlt
   have hoy := ho.out.ok y (List.mem_of_getElem? hx)
   have s0 := hcl 0 _ rfl; have s1 := hcl 1 _ rfl; have s2 := hcl 2 _ rfl; have s3 := hcl 3 _ rfl
   rw [Nat.add_zero] at s0
   clear hcl
   replace hx := Lh hx; replace hoy := Lh hoy
   have j0 : (0 : Int) ≤ j := by omega
   have j1 : (j : Int) < (n : Int) := by omega
   go_wp2_with (fail)
   all_goals first | (go_ret; exact ⟨SaysB.no, Below.refl _ _⟩) | skip
   have hz := Lh (show szG y.y.r ∧ y.n1 ≤ 80 ∧ y.n2 ≤ 80 from ⟨⟨by omega, by omega⟩, by omega, by omega⟩)
   go_loopw [6] (fun i wr => wr = X ∧ ∃ k : Nat, k ≤ y.n1 ∧ i = .int .i64 k ∧ ∀ s ∈ y.y.ks.take k, s.size ≤ 100) (fun i _ => y.n1 - (intOf i).toNat)
   case atStart => exact ⟨by first | rfl | trivial, 0, by omega, rfl, by simp⟩
   case round =>
    revert wr
    intro Z hrel
    obtain ⟨hZ, k, hk, rfl, hks⟩ := hrel
    obtain rfl : Z = X := hZ
    replace hks := Lh hks
    by_cases hlt2 : k < y.n1
    ·
     obtain ⟨b2, o2, s, hA1, hbl2, hx2, hc2⟩ := SL.at_ hoy.out.1 hlt2
     rw [hA1] at s2
     have t0 := hc2 0 _ rfl
     rw [Nat.mul_one, Nat.add_zero] at t0
     clear hc2
     replace hx2 := Lh hx2; replace hA1 := Lh hA1
     have k0 : (0 : Int) ≤ k := by omega
     have k1 : (k : Int) < (y.n1 : Int) := by omega
     go_wp2_with (fail)
     all_goals first | (go_ret; exact ⟨SaysB.no, Below.refl _ _⟩) | skip
     exact ⟨⟨by trivial, k + 1, by omega, by go_num, takeAllP hks.out hx2.out (by omega)⟩, by simp [intOf]; omega⟩
    ·
     obtain rfl : k = y.n1 := by omega
     go_wp2_with (fail)
     exact ⟨⟨by trivial, j + 1, by omega, by go_num, takeAllP hok.out hx.out ⟨hz.out.1, hz.out.2.1, hz.out.2.2, takeLenP hks.out (by rw [hoy.out.1.1]; exact Nat.le_refl _)⟩⟩, by simp [intOf]; omega⟩
  ·
   obtain rfl : j = n := by omega
   go_wp2_with (fail)
   go_loopw [7] (fun i wr => Below X.heap.size X wr ∧ ∃ k : Nat, k ≤ m ∧ i = .int .i64 k ∧ ∀ s ∈ cl.take k, szCd s.1) (fun i _ => m - (intOf i).toNat)
   case atStart => exact ⟨Below.refl _ _, 0, by omega, rfl, by simp⟩
   case round =>
    revert wr
    intro Z hrel
    obtain ⟨hZ, k, hk, rfl, hks⟩ := hrel
    have hcZ := hc.out.keep hZ
    replace hks := Lh hks; replace hZ := Lh hZ
    by_cases hlt2 : k < m
    ·
     obtain ⟨b, o, y, rfl, hbl, hx, hcl⟩ := SL.at_ hcZ.sl hlt2
     have hsy := (hcZ.ok y (List.mem_of_getElem? hx)).1
     have hld := cd_load_at (fun j u hu => hcl j u hu)
     have hsm := small2_any y.1 y.2 Z hsy
     clear hcl
     replace hx := Lh hx; replace hcZ := Lh hcZ; replace hsy := Lh hsy
     have k0 : (0 : Int) ≤ k := by omega
     have k1 : (k : Int) < (m : Int) := by omega
     go_wp2_with (fail)
     refine hsm.mono ?_
     rintro e V ⟨⟨bb, rfl, hbb⟩, bV⟩
     have kV := Lh (hZ.out.trans (bV.mono hZ.out.size))
     clear bV hsm hld
     cases bb with
     | false =>
      replace hbb := Lh hbb
      go_wp2_with (fail)
      go_ret
      exact ⟨SaysB.no, kV.out⟩
     | true =>
      have hsz := Lh (hbb rfl)
      clear hbb
      go_wp2_with (fail)
      exact ⟨⟨kV.out, k + 1, by omega, by go_num, takeAllP hks.out hx.out hsz.out⟩, by simp [intOf]; omega⟩
    ·
     obtain rfl : k = m := by omega
     go_wp2_with (fail)
     go_ret
     exact ⟨⟨true, rfl, fun _ => ⟨h8.out.1, h8.out.2, takeLenP hok.out (by rw [ho.out.sl.1]; exact Nat.le_refl _), takeLenP (q := fun s : CdS => szCd s.1) hks.out (by rw [hcZ.sl.1]; exact Nat.le_refl _)⟩⟩, hZ.out⟩
end Go.Proofs.YtgnjnpddehdmcaaGreatDoor
